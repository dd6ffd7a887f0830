/- Symbolic and real states: the relation, and what keeps it. -/
import Derived.Test.YtjjbhjnpeenbkaaGreatDoorPSAct
set_option linter.unusedSimpArgs false
set_option linter.unusedVariables false
set_option maxHeartbeats 16000000
namespace Go.PS
open Go
theorem re {w:World}{b o:Nat}{v:Value}(h:w.cell? ⟨b,o,none⟩=some v):b<w.heap.size:=
 World.block_lt_of_cell? (w:=w) (a:=⟨b,o,none⟩) h
theorem D.At.mono {w w':World}{X J:Nat->Prop}{x:D}{v:Value}(h:D.At w X x v)
  (hX:∀b,J b->X b\/w.heap.size<=b)(I:∀b,b<w.heap.size->¬X b->w'.heap[b]? =w.heap[b]?):D.At w' J x v:=by
 induction h with
 |sc v h=>exact .sc v h
 |ag U arr Z O _ V=>exact .ag U arr Z O V
 |slnil S cap=>exact .slnil S cap
 |sl l b Y cap s F H Z vals L _ V=>
  refine .sl l b Y cap s F H Z vals (λ i d j c G M=>?_) V;obtain⟨R,N,Q⟩:=L i d j c G M;have T:=re R;refine⟨?_,N,λ K=>?_⟩
  ·rw[World.cell?_of_block (w:=w) (a:=⟨b,Y+i*s+j,none⟩) (I b T Q)];exact R
  ·rcases hX b K with h|h
   ·exact Q h
   ·omega
 |tup U arr Z _ V=>exact .tup U arr Z V
 |pt U b Y vals L _ V=>
  refine .pt U b Y vals (λ j c M=>?_) V;obtain⟨R,N,Q⟩:=L j c M;have T:=re R;refine⟨?_,N,λ K=>?_⟩
  ·rw[World.cell?_of_block (w:=w) (a:=⟨b,Y+j,none⟩) (I b T Q)];exact R
  ·rcases hX b K with h|h
   ·exact Q h
   ·omega
 |fn f U arr Z _ V=>exact .fn f U arr Z V
theorem D.At.sub {w:World}{X Z:Nat->Prop}{x:D}{v:Value}(h:D.At w X x v)(hX:∀b,Z b->X b):D.At w Z x v:=
 h.mono (λ b Y=> .inl (hX b Y)) (λ _ _ _=>rfl)
theorem D.At.cells {w:World}{X:Nat->Prop}{x:D}{v:Value}(h:D.At w X x v)(M:∀l,x≠ .tup l):
  v.cells.size=x.cells.length/\(∀(j:Nat) (u:Value),v.cells[j]? =some u->u.oneCell'=true)/\∀(j:Nat) d u,x.cells[j]? =some d->v.cells[j]? =some u->D.At w X d u:=by
 cases h with
 |ag R arr V S h=>exact⟨V,S,h⟩
 |tup=>exact absurd rfl (M _)
 |sc v h=>
  refine⟨?_,?_,?_⟩
  ·cases v<;>first|rfl|simp[Value.oneCell']at h
  all_goals
   have e:v.cells=#[v]:=by cases v<;>first|rfl|simp[Value.oneCell']at h
   rw[e]
  ·intro j u Z;rcases j with _|j<;>simp at Z
   subst Z;exact h
  ·intro j d u Y Z;rcases j with _|j<;>simp[D.cells]at Y Z
   subst Y;subst Z;exact .sc v h
 |slnil T cap=>
  refine⟨rfl,?_,?_⟩<;>intro j
  ·intro u Z;rcases j with _|j<;>simp[Value.cells]at Z
   subst Z;rfl
  ·intro d u Y Z;rcases j with _|j<;>simp[D.cells,Value.cells]at Y Z
   subst Y;subst Z;exact .slnil T cap
 |sl l b U cap s N O V vals Q h=>
  refine⟨rfl,?_,?_⟩<;>intro j
  ·intro u Z;rcases j with _|j<;>simp[Value.cells]at Z
   subst Z;rfl
  ·intro d u Y Z;rcases j with _|j<;>simp[D.cells,Value.cells]at Y Z
   subst Y;subst Z;exact .sl l b U cap s N O V vals Q h
 |pt R b U vals Q h=>
  refine⟨rfl,?_,?_⟩<;>intro j
  ·intro u Z;rcases j with _|j<;>simp[Value.cells]at Z
   subst Z;rfl
  ·intro d u Y Z;rcases j with _|j<;>simp[D.cells,Value.cells]at Y Z
   subst Y;subst Z;exact .pt R b U vals Q h
 |fn f R arr V h=>
  refine⟨rfl,?_,?_⟩<;>intro j
  ·intro u Z;rcases j with _|j<;>simp[Value.cells]at Z
   subst Z;rfl
  ·intro d u Y Z;rcases j with _|j<;>simp[D.cells,Value.cells]at Y Z
   subst Y;subst Z;exact .fn f R arr V h
theorem PV.At.move {w w':World}{ι S:Nat->Option Nat}{X:Nat->Prop}{p:PV}{v:Value}(h:PV.At w ι X p v)
  (O:∀o b,ι o=some b->S o=some b/\bsz w' b=bsz w b)
  (L:∀b,ownX S X b->ownX ι X b\/w.heap.size<=b)
  (K:∀b,b<w.heap.size->¬ownX ι X b->w'.heap[b]? =w.heap[b]?):PV.At w' S X p v:=by
 induction h with
 |d x v h=>exact .d x v (h.mono L K)
 |ref o s U len cap R b Z I J H G=>exact .ref o s U len cap R b (O o b Z).1 I J H (G.trans (O o b Z).2.symm)
 |ref0 o s U Y=>exact .ref0 o s U Y
 |ptr o s i c b Z=>exact .ptr o s i c b (O o b Z).1
 |nilS=>exact .nilS
 |z0 Y=>exact .z0 Y
 |ag Q arr V N _ M=>exact .ag Q arr V N M
 |tup Q arr V _ M=>exact .tup Q arr V M
 |fn f Q arr V _ M=>exact .fn f Q arr V M
 |unk v=>exact .unk v
 |und=>exact .und
 |ab b=>exact .ab b
 |mp o b Z=>exact .mp o b (O o b Z).1
 |ifp T o b Z=>exact .ifp T o b (O o b Z).1
theorem Ob.At.move {w w':World}{ι U:Nat->Option Nat}{X:Nat->Prop}{o:Nat}{L:Ob}(h:Ob.At w ι X o L)
  (R:U o=ι o)(Q:L≠ .gone->∀b,ι o=some b->w'.heap[b]? =w.heap[b]?)
  (J:∀o b,ι o=some b->U o=some b/\bsz w' b=bsz w b)
  (I:∀b,ownX U X b->ownX ι X b\/w.heap.size<=b)
  (H:∀b,b<w.heap.size->¬ownX ι X b->w'.heap[b]? =w.heap[b]?):Ob.At w' U X o L:=by
 cases h with
 |dead h=>exact .dead (R.trans h)
 |gone=>exact .gone
 |cells G b c T Z Y S V h=>
  exact .cells G b c T (R.trans Z) ((Q xB b Z).trans Y) S V λ j p v N M=>(h j p v N M).move J I H
 |row0 s h=>exact .row0 s (R.trans h)
 |row s l b c T Z Y S O V h=>
  exact Ob.At.row (o:=o) (X:=X) s l b c T (R.trans Z) ((Q xB b Z).trans Y) S O V λ i d j e v C N M=>(h i d j e v C N M).mono I H
 |imap l b F clock Z Y E=>exact .imap l b F clock (R.trans Z) ((Q xB b Z).trans Y) E
 |iter m k A b K Z B Y=>exact .iter m k A b K (R.trans Z) (J m K B).1 ((Q xB b Z).trans Y)
structure W0 extends World where
 ι0:Nat->Option Nat
 tabs:List (Nat×List Int)
def W0.of (Z:W0)(P:Program):W0:={Z with tabs:=Go.PS.tabs P}
structure Frame0 (B:Nat->Prop)(w0:W0)(w:World):Prop where
 os:w.os=w0.os
 tape:w.tape=w0.tape
 output:w.output=w0.output
 size:w0.heap.size<=w.heap.size
 keep:∀b,B b->w.heap[b]? =w0.heap[b]?
structure Hold (B X:Nat->Prop)(w0:W0)(n:Nat)(S:St)(a:Act)(w:World)(ι:Nat->Option Nat):Prop where
 size:a.tmps.size=n
 defers:a.defers=[]
 frame:Frame0 B w0 w
 hB:∀b,B b->b<w0.heap.size
 hXB:(∀b,X b->B b)/\∀q,q∈w0.tabs->B q.1/\¬X q.1/\∀(j:Nat) v,q.2[j]? =some v->w0.toWorld.cell? ⟨q.1,j,none⟩=some (.int .u8 v)
 inj:∀o o' b,S.objs o≠ .gone->S.objs o'≠ .gone->ι o=some b->ι o'=some b->o=o'
 free:∀o b,ι o=some b->¬B b/\b<w.heap.size
 env:∀t,PV.At w ι X (S.env t) (a.tmps.getD t undef)
 objs:∀o,Ob.At w ι X o (S.objs o)
 stay:∀o b,w0.ι0 o=some b->(1000<=o/\o<2000)/\ι o=some b/\bsz w b=bsz w0.toWorld b
theorem Hold.hX {B X:Nat->Prop}{Z:W0}{n:Nat}{S:St}{a:Act}{w:World}{ι:Nat->Option Nat}(h:Hold B X Z n S a w ι)(b:Nat)(Y:X b):b<Z.heap.size:=h.hB b (h.hXB.1 b Y)
theorem Hold.tabs {B X:Nat->Prop}{Y:W0}{n:Nat}{S:St}{a:Act}{w:World}{ι:Nat->Option Nat}(h:Hold B X Y n S a w ι):iO Y.tabs w (ownX ι X):=by
 intro q Q;obtain⟨Z,V,U⟩:=h.hXB.2 q Q;refine⟨gS (h.hB _ Z) h.frame.size,?_,λ j v T=>?_⟩
 ·rintro(O|⟨o,R⟩)
  ·exact V O
  ·exact(h.free o _ R).1 Z
 ·rw[World.cell?_of_block (w:=Y.toWorld) (a:=⟨q.1,j,none⟩) (h.frame.keep _ Z)];exact U j v T
theorem iO.sub {T:List (Nat×List Int)}{w:World}{X Y:Nat->Prop}(h:iO T w X)(hX:∀b,Y b->X b):iO T w Y:=
 λ q Z=>⟨(h q Z).1,λ V=>(h q Z).2.1 (hX _ V),(h q Z).2.2⟩
theorem Hold.put {B X:Nat->Prop}{Y:W0}{n:Nat}{S:St}{a:Act}{w:World}{ι:Nat->Option Nat}(h:Hold B X Y n S a w ι){dst:Option Nat}{x:PV}{v:Value}
  (V:∀t,dst=some t->t<n)(U:PV.At w ι X x v):Hold B X Y n (S.put dst x) (a.put dst v) w ι:=by
 cases dst with
 |none=>exact h
 |some t=>
  refine⟨?_,h.defers,h.frame,h.hB,h.hXB,h.inj,h.free,λ u=>?_,h.objs,h.stay⟩
  ·simpa[Act.put]using h.size
  ·have R:=V t rfl;have T:=h.size;by_cases Z:u=t
   ·subst Z;simp only[St.put,upd,if_true,Act.put,qU];rw[Bg xA];exact U
   ·have:=h.env u;simp only[St.put,upd,if_neg Z,Act.put,qU]at this|-;rw[Aj xA];exact this
theorem gg (b off j:Nat):(⟨b,off,none⟩:Addr).add j=⟨b,off+j,none⟩:=by unfold Addr.add;split<;>simp_all
section types
variable {P:Program}{t:TypeId}
theorem MG (h:(tyi P t).ok=true):∃i,P.info? t=some i:=by
 simp only[tyi,Program.underlying]at h;cases Z:P.info? t with
 |none=>rw[Z]at h;simp at h
 |some i=>exact⟨i,rfl⟩
theorem TF (h:(tyi P t).ok=true):∃d,P.underlying t=some d:=Option.isSome_iff_exists.1 h
theorem Hu (h:(tyi P t).ok=true)(w:World):(sizeOf t).run P w= .ok (P.cellsOf t) w:=by
 obtain⟨i,Z⟩:=MG h;simp[sizeOf,typeInfo,Z,Program.cellsOf]
theorem Ru (h:(tyi P t).ok=true)(w:World):(isAgg t).run P w= .ok (tyi P t).agg w:=by
 obtain⟨d,Z⟩:=TF h;simp only[isAgg,Sem.run_bind,run_underlying Z,Result.andThen_ok,tyi,Z];cases d<;>rfl
theorem AE (h:(tyi P t).zok=true):∃i z,P.info? t=some i/\i.zero=some z/\z.cells.size=P.cellsOf t/\(∀v∈z.cells.toList,v.oneCell'=true)/\P.cellsOf t≠0/\(tyi P t).zero=z.cells.toList:=by
 simp only[tyi]at h|-;cases Y:P.info? t with
 |none=>rw[Y]at h;simp at h
 |some i=>
  rw[Y]at h;simp only at h|-;cases Z:i.zero with
  |none=>rw[Z]at h;simp at h
  |some z=>
   rw[Z]at h;rw[uN]at h;have h:=h.1;simp only[uN,zZ,De,ne_eq]at h;refine⟨i,z,rfl,Z,h.1.1,λ v V=>?_,h.2,rfl⟩;exact(kA.1 h.1.2) v (by simpa using V)
theorem I7 (h:(tyi P t).zok=true):(tyi P t).agg=false->(tyi P t).size=1:=by
 simp only[tyi]at h|-;cases Y:P.info? t with
 |none=>rw[Y]at h;simp at h
 |some i=>
  rw[Y]at h;simp only at h|-;cases V:i.zero with
  |none=>rw[V]at h;simp at h
  |some z=>
   rw[V]at h;rw[uN,gI,zZ]at h;intro U;rcases h.2 with Z|Z
   ·exact Z
   ·rw[U]at Z;cases Z
theorem MX (h:(tyi P t).kind=3):∃Y,P.underlying t=some (.struct Y):=by
 simp only[tyi]at h;cases Z:P.underlying t with
 |none=>rw[Z]at h;simp at h
 |some d=>rw[Z]at h;cases d<;>first|(simp at h;done)|(dsimp only at h;split at h<;>cases h;done)|exact⟨_,rfl⟩
theorem gy (h:(tyi P t).kind=1):P.underlying t=some (.slice (tyi P t).elem):=by
 simp only[tyi]at h|-;cases Z:P.underlying t with
 |none=>rw[Z]at h;simp at h
 |some d=>rw[Z]at h;cases d<;>first|(simp at h;done)|(dsimp only at h;split at h<;>cases h;done)|rfl
theorem EY (h:(tyi P t).kind=2):P.underlying t=some (.array (tyi P t).len (tyi P t).elem):=by
 simp only[tyi]at h|-;cases Z:P.underlying t with
 |none=>rw[Z]at h;simp at h
 |some d=>rw[Z]at h;cases d<;>first|(simp at h;done)|(dsimp only at h;split at h<;>cases h;done)|rfl
theorem MY (h:(tyi P t).kind=6):P.underlying t=some .bool:=by
 simp only[tyi]at h|-;cases Z:P.underlying t with
 |none=>rw[Z]at h;simp at h
 |some d=>rw[Z]at h;cases d<;>first|(simp at h;done)|(dsimp only at h;split at h<;>cases h;done)|rfl
theorem tC (h:(tyi P t).kind=7):∃k e i,P.underlying t=some (.map k e)/\P.underlying k=some (.int .i64)/\P.info? e=some i/\i.zero=some (.int .i64 0):=by
 simp only[tyi]at h;cases U:P.underlying t with
 |none=>rw[U]at h;simp at h
 |some d=>
  rw[U]at h;cases d<;>try (simp at h;done)
  rename_i k e;dsimp only at h;split at h
  ·rename_i V;simp only[FA,uN]at V;obtain⟨Y,Z⟩:=V;split at Y
   ·rename_i R;split at Z
    ·rename_i i T;split at Z
     ·rename_i Q;exact⟨k,e,i,rfl,R,T,Q⟩
     ·cases Z
    ·cases Z
   ·cases Y
  ·cases h
theorem oT {u:TypeId}(h:P.cellsOf u≠0)(w:World):(sizeOf u).run P w= .ok (P.cellsOf u) w:=by
 cases Z:P.info? u with
 |none=>simp[Program.cellsOf,Z]at h
 |some i=>simp[sizeOf,typeInfo,Z,Program.cellsOf]
end types
theorem yu {P:Program}{w:World}{t:TypeId}{b off:Nat}(ok:(tyi P t).ok=true)(f:Nat->Value)
  (Y:∀j,j<(if(tyi P t).agg then P.cellsOf t else 1)->w.cell? ⟨b,off+j,none⟩=some (f j)):
  (loadVar t ⟨b,off,none⟩).run P w= .ok (if(tyi P t).agg then .agg ((List.range (P.cellsOf t)).map f).toArray else f 0) w:=by
 simp only[loadVar,Sem.run_bind,Ru ok,Result.andThen_ok];cases U:(tyi P t).agg with
 |true=>
  simp only[U,if_true]at Y|-;have T:=run_loadCells_list (P:=P) w ⟨b,off,none⟩ ((List.range (P.cellsOf t)).map f) (λ j v h=>by
   rw[uJ]at h;rcases uD j (P.cellsOf t)with Z|V
   ·rw[yZ Z]at h;cases h;rw[gg];exact Y j Z
   ·rw[uL (by simpa using V)]at h;cases h)
  simp only[uC,kB]at T;simp only[Sem.run_bind,Hu ok,Result.andThen_ok,T,Sem.run_pure]
 |false=>
  simp only[U,qK,jH]at Y|-;have:=Y 0 xA;simp only[gX]at this;simp[this]
section hold
variable {P:Program}{B X:Nat->Prop}{w0:W0}{w:World}{n:Nat}{S:St}{a:Act}{ι:Nat->Option Nat}
def bC (P:Program)(B X:Nat->Prop)(w0:W0)(n:Nat)(o:Oper)(V:St)(a:Act)(w:World):Prop:=
 ∃v Z Y,((execOp a.eval o).run P w= .ok (.value v) Z\/((execOp a.eval o).run P w= .ok .skip Z/\v=undef))/\Hold B X w0 n V (a.put o.dst v) Z Y
theorem bC.wp {o:Oper}{V:St}{next:Act->World->Prop}{Q:Exit->Act->World->Prop}(h:bC P B X w0 n o V a w)
  (R:∀U w' Y,Hold B X w0 n V U w' Y->next U w'):o.wp P a w next Q:=by
 obtain⟨v,w',Y,Z,T⟩:=h;unfold Oper.wp;rcases Z with Z|⟨Z,rfl⟩
 ·rw[Z,Oper.upon_value];exact R _ _ _ T
 ·rw[Z,Oper.upon_skip];exact R _ _ _ T
theorem Hold.goes (h:Hold B X w0 n S a w ι){o:Oper}{x:PV}{v:Value}(Z:∀t,o.dst=some t->t<n)
  (Y:(execOp a.eval o).run P w= .ok (.value v) w)(V:PV.At w ι X x v):bC P B X w0 n o (S.put o.dst x) a w:=
 ⟨v,w,ι, .inl Y,h.put Z V⟩
def aZ :Operand->Bool
 | .const (.agg Z)=>Z.all (·.oneCell')
 | .const v=>v.oneCell'
 |_=>true
theorem td {v:Value}(h:v.oneCell'=true):PV.At w ι X (lF v) v:=by
 unfold lF;split
 ·exact .nilS
 ·exact .d _ _ (.sc v h)
theorem Hold.ev (h:Hold B X w0 n S a w ι){x:Operand}(Y:aZ x=true):PV.At w ι X (S.ev x) (a.eval x):=by
 cases x with
 |tmp t=>exact h.env t
 |global g=>exact .unk _
 |func f=>exact .d _ _ (.fn f [] #[] rfl (λ j d v Z=>by simp at Z))
 |const v=>
  simp only[St.ev,Act.eval];cases v with
  |agg U=>
   simp only[aZ]at Y;refine .ag _ U xB (λ j v Z=>?_) (λ j d v V Z=>?_)
   ·exact(kA.1 Y) v (jJ Z)
   ·rw[uJ,qY,Z]at V;cases V;exact td ((kA.1 Y) v (jJ Z))
  |_=>exact td (by simpa[aZ]using Y)
theorem PV.At.cells {p:PV}{v:Value}{cs:List PV}(h:PV.At w ι X p v)(Z:p.cells?=some cs):
  v.cells.size=cs.length/\(∀(j:Nat) (u:Value),v.cells[j]? =some u->u.oneCell'=true)/\∀(j:Nat) q u,cs[j]? =some q->v.cells[j]? =some u->PV.At w ι X q u:=by
 have one:∀{p:PV} {v:Value},PV.At w ι X p v->v.oneCell'=true->v.cells=#[v]->
   v.cells.size=[p].length/\(∀(j:Nat) (u:Value),v.cells[j]? =some u->u.oneCell'=true)/\∀(j:Nat) q u,[p][j]? =some q->v.cells[j]? =some u->PV.At w ι X q u:=by
  intro p v E K J;rw[J];refine⟨rfl,?_,?_⟩
  ·intro j u U;rcases j with _|j<;>simp at U
   subst U;exact K
  ·intro j q u R U;rcases j with _|j<;>simp at R U
   subst R;subst U;exact E
 cases h with
 |d x v h=>
  have A:∀l,x≠ .tup l:=by rintro l rfl;simp[PV.cells?]at Z
  obtain⟨K,J,H⟩:=h.cells A;have:cs=x.cells.map .d:=by cases x<;>simp[PV.cells?]at Z<;>first|exact Z.symm|skip
  subst this;refine⟨by simpa using K,J,λ j q u R z=>?_⟩;rw[uJ]at R;cases U:x.cells[j]? with
  |none=>rw[U]at R;cases R
  |some d=>rw[U]at R;cases R;exact .d _ _ (H j d u U z)
 |ag M arr Q L h=>cases Z;exact⟨Q,L,h⟩
 |tup=>cases Z
 |unk=>cases Z
 |und=>cases Z
 |ab=>cases Z
 |ref o s O len cap N b Y G I F C=>cases Z;exact one (.ref o s O len cap N b Y G I F C) rfl rfl
 |ref0 o s O V=>cases Z;exact one (.ref0 o s O V) rfl rfl
 |ptr o s i c b Y=>cases Z;exact one (.ptr o s i c b Y) rfl rfl
 |nilS=>cases Z;exact one .nilS rfl rfl
 |z0 V=>cases Z;exact one (.z0 V) rfl rfl
 |mp o b Y=>cases Z;exact one (.mp o b Y) rfl rfl
 |ifp T o b Y=>cases Z;exact one (.ifp T o b Y) rfl rfl
 |fn f M arr Q h=>cases Z;exact one (.fn f M arr Q h) rfl rfl
theorem Hold.change (h:Hold B X w0 n S a w ι)(ch:Option Nat)(o:Nat)(ob:Ob)(R:Nat->Option Nat)(w':World)
  (hos:w'.os=w.os)(G:w'.tape=w.tape)(A:w'.output=w.output)(N:w.heap.size<=w'.heap.size)
  (T:∀Z,Z≠o->R Z=ι Z)
  (H:∀b,ι o=some b->R o=some b)
  (J:∀b,ch=some b->(∃Z,ι Z=some b)/\(∀Z,Z≠o->S.objs Z≠ .gone->ι Z≠some b)/\bsz w' b=bsz w b)
  (V:∀b,b<w.heap.size->ch≠some b->w'.heap[b]? =w.heap[b]?)
  (Q:∀b,R o=some b->((ι o=some b/\S.objs o≠ .gone)\/w.heap.size<=b\/((∃Z,ι Z=some b)/\∀Z,Z≠o->S.objs Z≠ .gone->ι Z≠some b))/\b<w'.heap.size)
  (hob:Ob.At w' R X o ob):
  Hold B X w0 n {env:=S.env,objs:=upd o ob S.objs} a w' R:=by
 have h1:∀Z b,ι Z=some b->R Z=some b/\bsz w' b=bsz w b:=by
  intro Z b Y;refine⟨?_,?_⟩
  ·by_cases U:Z=o
   ·subst U;exact H b Y
   ·exact(T Z U).trans Y
  ·by_cases s:ch=some b
   ·exact(J b s).2.2
   ·simp only[bsz,V b (h.free Z b Y).2 s]
 have z:∀b,ownX R X b->ownX ι X b\/w.heap.size<=b:=by
  rintro b (Y|⟨Z,Y⟩)
  ·exact .inl (.inl Y)
  ·by_cases U:Z=o
   ·subst U;rcases(Q b Y).1 with h|h|h
    ·exact .inl (.inr ⟨_,h.1⟩)
    ·exact .inr h
    ·exact .inl (.inr h.1)
   ·exact .inl (.inr ⟨Z,by rw[<-T Z U];exact Y⟩)
 have h3:∀b,b<w.heap.size->¬ownX ι X b->w'.heap[b]? =w.heap[b]? :=λ b Y hn=>V b Y (λ U=>hn (.inr (J b U).1))
 refine⟨h.size,h.defers,⟨hos.trans h.frame.os,G.trans h.frame.tape,A.trans h.frame.output,gY h.frame.size N,λ b Y=>?_⟩,h.hB,h.hXB,?_,?_,?_,?_,?_⟩
 ·rw[<-h.frame.keep b Y];refine V b (gS (h.hB b Y) h.frame.size) (λ U=>?_);obtain⟨Z,ho'⟩:=(J b U).1;exact(h.free Z b ho').1 Y
 ·intro o1 O b E K I L;have C:∀O b,O≠o->S.objs O≠ .gone->R o=some b->ι O=some b->False:=by
   intro O b q K I L;rcases(Q b I).1 with M|M|M
   ·exact q (h.inj _ _ b K M.2 L M.1)
   ·have:=(h.free O b L).2;omega
   ·exact M.2 O q K L
  by_cases F:o1=o<;>by_cases q:O=o
  ·rw[F,q]
  ·subst F;rw[T O q]at L;simp only[upd,if_neg q]at K;exact(C O b q K I L).elim
  ·subst q;rw[T o1 F]at I;simp only[upd,if_neg F]at E;exact(C o1 b F E L I).elim
  ·rw[T o1 F]at I;rw[T O q]at L;simp only[upd,if_neg F]at E;simp only[upd,if_neg q]at K;exact h.inj _ _ b E K I L
 ·intro Z b Y;by_cases U:Z=o
  ·subst U;refine⟨λ hB=>?_,(Q b Y).2⟩;rcases(Q b Y).1 with M|M|M
   ·exact(h.free _ b M.1).1 hB
   ·have:=h.hB b hB;have:=h.frame.size;omega
   ·obtain⟨O,z⟩:=M.1;exact(h.free O b z).1 hB
  ·rw[T Z U]at Y;exact⟨(h.free Z b Y).1,gS (h.free Z b Y).2 N⟩
 ·exact λ t=>(h.env t).move h1 z h3
 ·intro Z;by_cases U:Z=o
  ·subst U;simp only[upd,if_true];exact hob
  ·simp only[upd,if_neg U];exact(h.objs Z).move (T Z U) (λ hg b Y=>V b (h.free Z b Y).2 (λ s=>(J b s).2.1 Z U hg Y)) h1 z h3
 ·intro Z b Y;obtain⟨E,K,g3⟩:=h.stay Z b Y;obtain⟨g4,g5⟩:=h1 Z b K;exact⟨E,g4,g5.trans g3⟩
theorem Hold.gone (h:Hold B X w0 n S a w ι)(o:Nat):Hold B X w0 n {env:=S.env,objs:=upd o .gone S.objs} a w ι:=by
 refine⟨h.size,h.defers,h.frame,h.hB,h.hXB,λ Q O b Y V T R=>?_,h.free,h.env,λ U=>?_,h.stay⟩
 ·have q:Q≠o:=λ Z=>Y (by subst Z;exact if_pos rfl)
  have N:O≠o:=λ Z=>V (by subst Z;exact if_pos rfl)
  simp only[upd,if_neg q]at Y;simp only[upd,if_neg N]at V;exact h.inj _ _ b Y V T R
 ·by_cases Z:U=o
  ·subst Z;simp only[upd,if_true];exact .gone
  ·simp only[upd,if_neg Z];exact h.objs U
end hold
section hold
variable {P:Program}{B X:Nat->Prop}{w0:W0}{w:World}{n:Nat}{S:St}{a:Act}{ι:Nat->Option Nat}
theorem D.At.single {x:D}{v:Value}{Y:Nat->Prop}(h:D.At w Y x v)(Z:v.oneCell'=true):x.cells=[x]:=by
 cases h<;>first|rfl|(simp[Value.oneCell']at Z)
theorem fE {b o:Nat}{c:Array Value}{T:TypeId}{fr:Nat×Nat}(h:w.heap[b]? =some (.cells c T fr)):w.cell? ⟨b,o,none⟩=c[o]? :=by
 simp[World.cell?,h]
theorem NI {T:TypeId}{cs:List D}{J:Value}(I:D.At w (ownX ι X) (.pt cs) J)(M:(tyi P T).ok=true)(R:(ldD (tyi P T) cs).1):
  ∃v,(Instr.loadAt T J).run P w= .ok v w/\D.At w (ownX ι X) (ldD (tyi P T) cs).2 v:=by
 cases I with
 |pt cs b off vals K h=>
  have U:((tyi P T).agg=true->P.cellsOf T<=cs.length)/\((tyi P T).agg=false->∃x r,cs=x::r):=by
   unfold ldD at R;cases Y:(tyi P T).agg with
   |true=>simp only[Y,if_true]at R;exact⟨λ _=>R,(λ h=>by cases h)⟩
   |false=>
    simp only[Y,qK,jH]at R;refine⟨(λ h=>by cases h),λ _=>?_⟩;cases cs with
    |nil=>simp at R
    |cons x r=>exact⟨x,r,rfl⟩
  have Q:=yu (P:=P) (w:=w) (t:=T) (b:=b) (off:=off) M vals (λ j Z=>by
   have:j<cs.length:=by
    cases Y:(tyi P T).agg with
    |true=>rw[Y]at Z;simp at Z;have:=U.1 Y;omega
    |false=>rw[Y]at Z;simp at Z;obtain⟨x,r,rfl⟩:=U.2 Y;simp;omega
   exact(K j _ (uT this)).1)
  refine⟨_,by simp only[Instr.loadAt,Instr.sureAddr,Sem.run_bind,Sem.run_pure,Result.andThen_ok];exact Q,?_⟩;unfold ldD;cases Y:(tyi P T).agg with
  |true=>
   have H:=U.1 Y;simp only[if_true];have L:∀(j:Nat) (v:Value),((List.range (P.cellsOf T)).map vals).toArray[j]? =some v->j<P.cellsOf T/\v=vals j:=by
    intro j v Z;rw[zG,uJ]at Z;rcases uD j (P.cellsOf T)with V|N
    ·rw[yZ V]at Z;cases Z;exact⟨V,rfl⟩
    ·rw[uL (by simpa using N)]at Z;cases Z
   refine .ag _ _ (by simp[tyi];omega) (λ j v Z=>?_) (λ j d v O Z=>?_)
   ·obtain⟨V,rfl⟩:=L j v Z;exact(K j _ (uT xA)).2.1
   ·obtain⟨V,rfl⟩:=L j v Z;rw[qS]at O;split at O
    ·exact h j d O
    ·cases O
  |false=>
   obtain⟨x,r,rfl⟩:=U.2 Y;simp only[qK,jH];exact h 0 x rfl
theorem tG (hS:Hold B X w0 n S a w ι){T:TypeId}{o sz i c:Nat}{va:Value}(hp:PV.At w ι X (.ptr o sz i c) va)(C:(tyi P T).ok=true)
  (U:(lj (tyi P T) (S.objs o) sz i c).1):∃v,(Instr.loadAt T va).run P w= .ok v w/\PV.At w ι X (lj (tyi P T) (S.objs o) sz i c).2 v:=by
 cases hp with
 |ptr o sz i c b M=>
  have E:=hS.objs o;generalize S.objs o=ob at E U;cases E with
  |dead h=>rw[h]at M;cases M
  |gone=>exact U.elim
  |imap=>exact U.elim
  |iter=>exact U.elim
  |row0 sz' h=>rw[h]at M;cases M
  |cells A b' arr T' Q s hsz K h=>
   rw[M]at Q;cases Q;simp only[lj]at U|-;generalize hq:i*sz+c=q at U|-;have N:((tyi P T).agg=true->q+P.cellsOf T<=A.length\/P.cellsOf T=0)/\((tyi P T).agg=false->∃x r,A.drop q=x::r):=by
    unfold ldP at U;cases R:(tyi P T).agg with
    |true=>simp only[R,if_true,jR]at U;exact⟨λ _=>by simp[tyi]at U;omega,(λ h=>by cases h)⟩
    |false=>
     simp only[R,qK,jH]at U;refine⟨(λ h=>by cases h),λ _=>?_⟩;cases Y:A.drop q with
     |nil=>rw[Y]at U;simp at U
     |cons x r=>exact⟨x,r,rfl⟩
   have J:=yu (P:=P) (w:=w) (t:=T) (b:=b) (off:=q) C (λ j=>arr.getD (q+j) undef) (λ j Z=>by
    have:q+j<arr.size:=by
     cases R:(tyi P T).agg with
     |true=>rw[R]at Z;simp at Z;have:=N.1 R;omega
     |false=>
      rw[R]at Z;simp at Z;obtain⟨x,r,Y⟩:=N.2 R;have:=gL List.length Y;simp at this;omega
    rw[fE s];simp[Array.getD,this])
   refine⟨_,by simp only[Instr.loadAt,Instr.sureAddr,Sem.run_bind,Sem.run_pure,Result.andThen_ok];exact J,?_⟩;unfold ldP;cases R:(tyi P T).agg with
   |true=>
    have hs:=N.1 R;simp only[if_true];have F:∀(j:Nat) (v:Value),((List.range (P.cellsOf T)).map λ j=>arr.getD (q+j) undef).toArray[j]? =some v->j<P.cellsOf T/\arr[q+j]? =some v:=by
     intro j v Z;rw[zG,uJ]at Z;rcases uD j (P.cellsOf T)with V|I
     ·rw[yZ V]at Z;cases Z;have L:q+j<arr.size:=xA;exact⟨V,by simp[Array.getD,L]⟩
     ·rw[uL (by simpa using I)]at Z;cases Z
    refine .ag _ _ (by simp[tyi];omega) (λ j v Z=>?_) (λ j d v Y Z=>?_)
    ·exact K _ v (F j v Z).2
    ·obtain⟨V,z⟩:=F j v Z;rw[qS]at Y;split at Y
     ·rw[gC]at Y;exact h (q+j) d v Y z
     ·cases Y
   |false=>
    obtain⟨x,r,Y⟩:=N.2 R;simp only[qK,jH,Y];have G:A[q]? =some x:=by have:=gL (·[0]?) Y;simpa using this
    have V:q<arr.size:=by have:=(uB.1 G).1;omega
    exact h q x _ G (by simp[Array.getD,V])
  |row sz' l b' arr T' Q s hsz N K h=>
   rw[M]at Q;cases Q;simp only[lj]at U|-;obtain⟨rfl,hi,U⟩:=U;have H:l[i]? =some l[i]:=uT hi;simp only[H,yN]at U|-;have hcs:l[i].cells.length=sz:=N _ (kJ hi);have hroom:i*sz+sz<=arr.size:=by
    have:(i+1)*sz<=l.length*sz:=yR _ hi;rw[qN]at this;omega
   have hld:D.At w (ownX ι X) (.pt (l[i].cells.drop c)) (.pointer (some ⟨b,i*sz+c,none⟩))\/True:= .inr trivial;have O:((tyi P T).agg=true->c+P.cellsOf T<=sz\/P.cellsOf T=0)/\((tyi P T).agg=false->∃x r,l[i].cells.drop c=x::r):=by
    unfold ldD at U;cases R:(tyi P T).agg with
    |true=>simp only[R,if_true,jR]at U;exact⟨λ _=>by simp[tyi]at U;omega,(λ h=>by cases h)⟩
    |false=>
     simp only[R,qK,jH]at U;refine⟨(λ h=>by cases h),λ _=>?_⟩;cases Y:l[i].cells.drop c with
     |nil=>rw[Y]at U;simp at U
     |cons x r=>exact⟨x,r,rfl⟩
   have J:=yu (P:=P) (w:=w) (t:=T) (b:=b) (off:=i*sz+c) C (λ j=>arr.getD (i*sz+c+j) undef) (λ j Z=>by
    have:i*sz+c+j<arr.size:=by
     cases R:(tyi P T).agg with
     |true=>rw[R]at Z;simp at Z;have:=O.1 R;omega
     |false=>
      rw[R]at Z;simp at Z;obtain⟨x,r,Y⟩:=O.2 R;have:=gL List.length Y;simp at this;omega
    rw[fE s];simp[Array.getD,this])
   refine⟨_,by simp only[Instr.loadAt,Instr.sureAddr,Sem.run_bind,Sem.run_pure,Result.andThen_ok];exact J, .d _ _ ?_⟩;unfold ldD;cases R:(tyi P T).agg with
   |true=>
    have hs:=O.1 R;simp only[if_true];have F:∀(j:Nat) (v:Value),((List.range (P.cellsOf T)).map λ j=>arr.getD (i*sz+c+j) undef).toArray[j]? =some v->j<P.cellsOf T/\arr[i*sz+c+j]? =some v:=by
     intro j v Z;rw[zG,uJ]at Z;rcases uD j (P.cellsOf T)with V|I
     ·rw[yZ V]at Z;cases Z;have L:i*sz+c+j<arr.size:=xA;exact⟨V,by simp[Array.getD,L]⟩
     ·rw[uL (by simpa using I)]at Z;cases Z
    refine .ag _ _ (by simp[tyi];omega) (λ j v Z=>?_) (λ j d v Y Z=>?_)
    ·exact K _ v (F j v Z).2
    ·obtain⟨V,z⟩:=F j v Z;rw[qS]at Y;split at Y
     ·rw[gC]at Y;rw[zW]at z;exact h i _ (c+j) d v H Y z
     ·cases Y
   |false=>
    obtain⟨x,r,Y⟩:=O.2 R;simp only[qK,jH,Y];have G:l[i].cells[c]? =some x:=by have:=gL (·[0]?) Y;simpa using this
    have V:i*sz+c<arr.size:=by have:=(uB.1 G).1;omega
    exact h i _ c x _ H G (by simp[Array.getD,V])
theorem Sj (V:Hold B X w0 n S a w ι){dst:Option Nat}{T:TypeId}{x:Operand}{ty:TypeId}{pos:String}{af:Array Edge}{gd:Option (Nat×Bool)}(Q:∀t,dst=some t->t<n)(O:aZ x=true)
  (h:(fy (tyi P T) S.objs (S.ev x)).1):bC P B X w0 n ⟨dst, .load T x,ty,pos,af,gd⟩ (S.app dst (fy (tyi P T) S.objs (S.ev x)).2) a w:=by
 have Y:=V.ev O;generalize S.ev x=p at h Y;unfold fy at h|-;split at h
 ·obtain⟨Z,h⟩:=h;simp only;rw[bH];cases Y with
  |d _ _ Y=>
   obtain⟨v,U,R⟩:=NI Y Z h;exact V.goes Q (by simp only[execOp,Sem.run_bind,U,Result.andThen_ok,Sem.run_pure]) (.d _ _ R)
 ·obtain⟨Z,h⟩:=h;simp only;rw[pe];obtain⟨v,U,R⟩:=tG V Y Z h;exact V.goes Q (by simp only[execOp,Sem.run_bind,U,Result.andThen_ok,Sem.run_pure]) R
 ·exact h.elim
end hold
section hold
variable {P:Program}{B X:Nat->Prop}{w0:W0}{w:World}{n:Nat}{S:St}{a:Act}{ι:Nat->Option Nat}{dst:Option Nat}{ty:TypeId}{pos:String}{af:Array Edge}{gd:Option (Nat×Bool)}
theorem Sr (h:Hold B X w0 n S a w ι){x:Operand}(Z:∀t,dst=some t->t<n)(Y:aZ x=true):bC P B X w0 n ⟨dst, .move x,ty,pos,af,gd⟩ (S.app dst (.v (S.ev x))) a w:=by
 rw[bH];exact h.goes Z rfl (h.ev Y)
theorem R3 (h:Hold B X w0 n S a w ι){x:Operand}(Z:∀t,dst=some t->t<n)(Y:aZ x=true):bC P B X w0 n ⟨dst, .assign x,ty,pos,af,gd⟩ (S.app dst (.v (S.ev x))) a w:=by
 rw[bH];exact h.goes Z rfl (h.ev Y)
theorem Su (Z:Hold B X w0 n S a w ι){c x y:Operand}(R:∀t,dst=some t->t<n)(Q:aZ c=true)(O:aZ x=true)(N:aZ y=true)(V:(nW (S.ev c) (S.ev x) (S.ev y)).1):
  bC P B X w0 n ⟨dst, .pick c x y,ty,pos,af,gd⟩ (S.app dst (nW (S.ev c) (S.ev x) (S.ev y)).2) a w:=by
 have Y:=Z.ev Q;have U:=Z.ev O;have T:=Z.ev N;generalize S.ev c=p at V Y;unfold nW at V|-;split at V
 ·rename_i t;simp only;rw[bH];cases Y with
  |d _ _ Y=>
   have e:a.eval c= .bool t:=by cases h:a.eval c<;>rw[h]at Y<;>cases Y;rfl
   cases t
   ·exact Z.goes R (by simp[execOp,e,asBool]) T
   ·exact Z.goes R (by simp[execOp,e,asBool]) U
 ·exact V.elim
theorem Sd (L:Hold B X w0 n S a w ι){T:TypeId}{x:Operand}{f:Nat}(E:∀t,dst=some t->t<n)(hx:aZ x=true)
  (V:(nP P (tyi P T) f (S.ev x)).1):bC P B X w0 n ⟨dst, .fieldAddr T x f,ty,pos,af,gd⟩ (S.app dst (nP P (tyi P T) f (S.ev x)).2) a w:=by
 have R:=L.ev hx;generalize S.ev x=p at V R;unfold nP at V|-;cases U:(tyi P T).fields[f]? with
 |none=>rw[U]at V;exact V.elim
 |some q=>
  obtain⟨Z,F⟩:=q;rw[U]at V;simp only at V|-;have run:∀(b o:Nat),a.eval x= .pointer (some ⟨b,o,none⟩)->(tyi P T).kind=3->P.cellsOf F≠0->
    (execOp a.eval ⟨dst, .fieldAddr T x f,ty,pos,af,gd⟩).run P w= .ok (.value (.pointer (some ⟨b,o+Z,none⟩))) w:=by
   intro b o e M Y;obtain⟨G,A⟩:=MX M;have J:∃O,G[f]? =some O/\O.offset=Z/\O.type=F:=by
    simp only[tyi,A]at U;rw[uJ,qY]at U;cases C:G[f]? with
    |none=>rw[C]at U;cases U
    |some O=>rw[C]at U;cases U;exact⟨O,rfl,rfl,rfl⟩
   obtain⟨O,K,rfl,rfl⟩:=J;have I:=oT (P:=P) Y w;simp only[execOp,Instr.fieldAt,e,Sem.run_bind,run_underlying A,Result.andThen_ok,K,Instr.sureAddr,Sem.run_pure,fieldPlace,I,Y,jH,gg]
  cases p with
  |d dd=>
   cases dd with
   |pt z=>
    obtain⟨M,Y⟩:=V;simp only;rw[bH];cases R with
    |d _ _ R=>
     generalize Q:a.eval x=va at R;cases R with
     |pt z b o vals hv h=>
      refine L.goes E (run b o Q M Y) (.d _ _ ?_);refine .pt _ b (o+Z) (λ j=>vals (Z+j)) (λ j c N=>?_) (λ j c N=>?_)
      ·rw[gC]at N;have:=hv (Z+j) c N;rw[zW];exact this
      ·rw[gC]at N;exact h (Z+j) c N
   |_=>exact V.elim
  |ptr o s i c=>
   obtain⟨M,Y⟩:=V;simp only;rw[bH];generalize Q:a.eval x=va at R;cases R with
   |ptr o s i c b H=>
    refine L.goes E (run b _ Q M Y) ?_;rw[zW];exact .ptr o s i (c+Z) b H
  |_=>exact V.elim
theorem JV {v:Value}{k:IntKind}{m:Int}(h:v= .int k m):(asIntOf v).run P w= .ok (k,m) w:=by subst h;rfl
theorem cP {v:Value}{m:Int}(h:PV.At w ι X (.d (.sc (.int .i64 m))) v):v= .int .i64 m:=by
 cases h with
 |d _ _ h=>cases h;rfl
theorem ri {v:Value}{b:Bool}(h:PV.At w ι X (.d (.sc (.bool b))) v):v= .bool b:=by
 cases h with
 |d _ _ h=>cases h;rfl
theorem Sh (J:Hold B X w0 n S a w ι){T:TypeId}{x i:Operand}(E:∀t,dst=some t->t<n)(hx:aZ x=true)(hi:aZ i=true)
  (O:(nS (tyi P T) (P.cellsOf (tyi P T).elem) (S.ev x) (S.ev i)).1):bC P B X w0 n ⟨dst, .indexAddr T x i,ty,pos,af,gd⟩ (S.app dst (nS (tyi P T) (P.cellsOf (tyi P T).elem) (S.ev x) (S.ev i)).2) a w:=by
 have Q:=J.ev hx;have F:=J.ev hi;generalize S.ev x=p at O Q;generalize S.ev i=q at O F;unfold nS at O|-;split at O
 ·rename_i l m;obtain⟨H,V,K,Y,I⟩:=O;simp only;rw[bH];have G:=gy H;have L:=cP F;have Z:=oT (P:=P) (u:=(tyi P T).elem) V w;generalize U:a.eval x=va at Q;cases Q with
  |d _ _ Q=>
   have N:l[m.toNat]? =some l[m.toNat]:=uT Y;simp only[N,yN]at I|-;cases Q with
   |slnil=>simp at Y
   |sl l b R cap s hl hcap z vals hv h=>
    have A:s=P.cellsOf (tyi P T).elem:=by rw[<-I];exact(z _ (kJ Y)).symm
    refine J.goes (v:= .pointer (some ⟨b,R+m.toNat*s,none⟩)) E ?_ (.d _ _ ?_)
    ·simp[execOp,Instr.indexAt,U,L,asIntOf,run_underlying G,Z,K,A,gg];omega
    ·exact .pt _ b _ (λ j=>vals m.toNat j) (λ j c C=>hv m.toNat _ j c N C) (λ j c C=>h m.toNat _ j c N C)
 ·rename_i o s R len cap m;obtain⟨H,V,K,Y,A⟩:=O;simp only;rw[bH];have G:=gy H;have L:=cP F;have Z:=oT (P:=P) (u:=(tyi P T).elem) V w;generalize U:a.eval x=va at Q;cases Q with
  |ref0=>simp at Y
  |ref o s R len cap capr b M hl hcc hm hss=>
   refine J.goes (v:= .pointer (some ⟨b,(R+m.toNat)*s+0,none⟩)) E ?_ (.ptr o s (R+m.toNat) 0 b M);simp[execOp,Instr.indexAt,U,L,asIntOf,run_underlying G,Z,K,A,gg,qN];omega
 ·rename_i o s i0 c m;obtain⟨H,V,K,Y⟩:=O;simp only;rw[bH];have G:=EY H;have L:=cP F;have Z:=oT (P:=P) (u:=(tyi P T).elem) V w;generalize U:a.eval x=va at Q;cases Q with
  |ptr o s i c b M=>
   refine J.goes (v:= .pointer (some ⟨b,i0*s+(c+m.toNat*P.cellsOf (tyi P T).elem),none⟩)) E ?_ (.ptr o s i0 (c+m.toNat*P.cellsOf (tyi P T).elem) b M);have hm:m<(tyi P T).len:=xA;simp[execOp,Instr.indexAt,U,L,asIntOf,run_underlying G,Z,K,hm,gg,Instr.sureAddr,zW]
 ·exact O.elim
theorem SB (Y:Hold B X w0 n S a w ι){op:UnOp}{T:TypeId}{x:Operand}(U:∀t,dst=some t->t<n)(Q:aZ x=true)
  (V:(nY op (S.ev x)).1):bC P B X w0 n ⟨dst, .unOp op T x,ty,pos,af,gd⟩ (S.app dst (nY op (S.ev x)).2) a w:=by
 have Z:=Y.ev Q;generalize S.ev x=p at V Z;unfold nY at V|-;split at V
 ·simp only;rw[bH];exact Y.goes U (by simp[execOp,ri Z,Op.unary]) (.d _ _ (.sc _ rfl))
 ·simp only;rw[bH];obtain⟨b,R⟩:∃b,a.eval x= .bool b:=by
   generalize a.eval x=v at Z;cases Z;exact⟨_,rfl⟩
  exact Y.goes U (by simp[execOp,R,Op.unary]) (.ab (!b))
 ·simp only;rw[bH];exact Y.goes U (by simp[execOp,cP Z,Op.unary,Op.intArith]) (.d _ _ (.sc _ rfl))
 ·rename_i m;simp only;rw[bH];have R:a.eval x= .int .u64 m:=by
   generalize a.eval x=v at Z;cases Z with
   |d _ _ h=>cases h;rfl
  exact Y.goes U (by simp[execOp,R,Op.unary,Op.intArith]) (.d _ _ (.sc _ rfl))
 ·exact V.elim
theorem Ss (U:Hold B X w0 n S a w ι){x:Operand}(Q:∀t,dst=some t->t<n)(M:aZ x=true)
  (V:(nV (S.ev x)).1):bC P B X w0 n ⟨dst, .nilCheck x,ty,pos,af,gd⟩ (S.app dst (nV (S.ev x)).2) a w:=by
 have Z:=U.ev M;generalize S.ev x=p at V Z;unfold nV at V|-;split at V
 ·simp only;rw[bH];generalize T:a.eval x=v at Z;cases Z with
  |d _ _ h=>
   cases h with
   |pt _ b Y vals O N=>exact U.goes Q (v:= .pointer (some ⟨b,Y,none⟩)) (by simp only[execOp,T];rfl) (.d _ _ (.pt _ b Y vals O N))
 ·simp only;rw[bH];generalize T:a.eval x=v at Z;cases Z with
  |ptr _ _ _ _ b R=>exact U.goes Q (v:= .pointer (some ⟨b,_,none⟩)) (by simp only[execOp,T];rfl) (.ptr _ _ _ _ b R)
 ·exact V.elim
theorem HQ (Q:Hold B X w0 n S a w ι){x:Operand}{i:Nat}(M:∀t,dst=some t->t<n)(K:aZ x=true)
  (Y:(l8 (S.ev x) i).1):bC P B X w0 n ⟨dst, .extract x i,ty,pos,af,gd⟩ (S.app dst (l8 (S.ev x) i).2) a w:=by
 have T:=Q.ev K;generalize S.ev x=p at Y T;unfold l8 at Y|-;split at Y
 ·rename_i N;cases V:N[i]? with
  |none=>rw[V]at Y;exact Y.elim
  |some d=>
   simp only;rw[bH];generalize R:a.eval x=J at T;cases T with
   |tup L arr O h=>
    have U:i<arr.size:=by have:=(uB.1 V).1;omega
    have Z:arr[i]? =some arr[i]:=yC U;exact Q.goes M (by simp[execOp,R,Instr.extract,Z]) (h i d _ V Z)
 ·rename_i N;cases V:N[i]? with
  |none=>rw[V]at Y;exact Y.elim
  |some d=>
   simp only;rw[bH];generalize R:a.eval x=J at T;cases T with
   |d _ _ T=>
    cases T with
    |tup L arr O h=>
     have U:i<arr.size:=by have:=(uB.1 V).1;omega
     have Z:arr[i]? =some arr[i]:=yC U;exact Q.goes M (by simp[execOp,R,Instr.extract,Z]) (.d _ _ (h i d _ V Z))
 ·exact Y.elim
end hold
section hold
variable {P:Program}{B X:Nat->Prop}{w0:W0}{w:World}{n:Nat}{S:St}{a:Act}{ι:Nat->Option Nat}{dst:Option Nat}{ty:TypeId}{pos:String}{af:Array Edge}{gd:Option (Nat×Bool)}
theorem vE {v:Value}{m:Int}{y:Nat}{code:BoundsCode}(Y:v= .int .i64 m)(h:0<=m)(Z:m<=y):(Instr.sliceBound v y code).run P w= .ok m.toNat w:=by
 subst Y;simp[Instr.sliceBound,asIntOf,h,Z]
theorem Km {len cap:Nat}{lo U:Option Operand}{l h:Int}(N:Hold B X w0 n S a w ι)(R:∀x,lo=some x->aZ x=true)(T:∀x,U=some x->aZ x=true)
  (V:j7 0 (lo.map S.ev)=some l)(Y:j7 len (U.map S.ev)=some h)(J:0<=l)(G:l<=h)(I:h<=len)(H:len<=cap):
  (Instr.sliceBounds true len cap (lo.map a.eval) (U.map a.eval) none).run P w= .ok (l.toNat,h.toNat,cap) w:=by
 have L:∀x,lo=some x->a.eval x= .int .i64 l:=by
  rintro x rfl;have:=N.ev (R x rfl);simp only[qB]at V;generalize S.ev x=p at V this;unfold j7 at V;split at V
  ·rename_i Z;cases Z
  ·rename_i Z;cases Z;cases V;exact cP this
  ·cases V
 have K:∀x,U=some x->a.eval x= .int .i64 h:=by
  rintro x rfl;have:=N.ev (T x rfl);simp only[qB]at Y;generalize S.ev x=p at Y this;unfold j7 at Y;split at Y
  ·rename_i Z;cases Z
  ·rename_i Z;cases Z;cases Y;exact cP this
  ·cases Y
 have O:∀(c:BoundsCode) (x:Operand),lo=some x->(Instr.sliceBound (a.eval x) h.toNat c).run P w= .ok l.toNat w:=λ c x Q=>vE (L x Q) J xA
 have M:∀(c:BoundsCode) (x:Operand),U=some x->(Instr.sliceBound (a.eval x) cap c).run P w= .ok h.toNat w:=λ c x Q=>vE (K x Q) xA xA
 cases lo with
 |none=>
  simp only[Ca,j7,yM]at V;cases U with
  |none=>
   simp only[Ca,j7,yM]at Y;simp[Instr.sliceBounds];omega
  |some y=>simp[Instr.sliceBounds,M _ y rfl];omega
 |some x=>
  cases U with
  |none=>
   simp only[Ca,j7,yM]at Y;have:h.toNat=len:=xA;rw[this]at O;simp[Instr.sliceBounds,O _ x rfl];omega
  |some y=>simp[Instr.sliceBounds,O _ x rfl,M _ y rfl]
theorem Sy (M:Hold B X w0 n S a w ι){T:TypeId}{x:Operand}{lo U mx:Option Operand}(G:∀t,dst=some t->t<n)(hx:aZ x=true)
  (hlo:∀x,lo=some x->aZ x=true)(hhi:∀x,U=some x->aZ x=true)(hmx:∀x,mx=some x->aZ x=true)
  (A:(nX (tyi P T) (P.cellsOf (tyi P T).elem) (S.ev x) (lo.map S.ev) (U.map S.ev) (mx.map S.ev)).1):
  bC P B X w0 n ⟨dst, .slice T x lo U mx,ty,pos,af,gd⟩ (S.app dst (nX (tyi P T) (P.cellsOf (tyi P T).elem) (S.ev x) (lo.map S.ev) (U.map S.ev) (mx.map S.ev)).2) a w:=by
 have hp:=M.ev hx;unfold nX at A|-;split at A
 case h_2=>exact A.elim
 rename_i len l Z F;split at A
 ·rename_i h J hm;have hmn:mx=none:=by cases mx<;>first|rfl|cases hm
  subst hmn;obtain⟨hk,hne,h0,hlh,hhl,E⟩:=A;simp only[Z,F,J,Ca];rw[bH];have hu:=gy hk;have Q:=oT (P:=P) (u:=(tyi P T).elem) hne w;have run:∀(Y:Option Addr) (cap:Nat),a.eval x= .slice Y len cap->len<=cap->
    (execOp a.eval ⟨dst, .slice T x lo U none,ty,pos,af,gd⟩).run P w= .ok (.value (.slice (if cap=l.toNat then Y else Y.map (·.add (l.toNat*P.cellsOf (tyi P T).elem))) (h.toNat-l.toNat) (cap-l.toNat))) w:=by
   intro Y cap hv hlc;have hb:=Km (P:=P) M hlo hhi F J h0 hlh hhl hlc;simp[execOp,Instr.sliceAt,Instr.slice,run_underlying hu,hv,hb,Q]
  generalize O:a.eval x=va at hp;generalize S.ev x=p at hp Z E;cases hp with
  |d d0 _ hd0=>
   cases hd0 with
   |slnil Y cap=>
    simp only[fY,uU,yM]at Z;subst Z;have I:l.toNat=0:=xA;have H:h.toNat=0:=xA;refine M.goes G (run Y cap O xA) ?_;rw[I,H];exact .d _ _ (.slnil _ _)
   |sl xs b N cap s q hcap hsz vals hv hat=>
    simp only[fY,yM]at Z;subst Z;refine M.goes G (run _ cap O q) ?_;by_cases he:l=h
    ·subst he;simp only[sw,jK];rw[kZ (by simp;omega)];exact .d _ _ (.slnil _ _)
    ·have hcl:cap≠l.toNat:=xA;have hs:s=P.cellsOf (tyi P T).elem:=by
      have h1:l.toNat<xs.length:=xA;rw[<-E _ (kJ h1)];exact(hsz _ (kJ h1)).symm
     rw[if_neg hcl];simp only[sw,qB,gg];have L:((xs.take h.toNat).drop l.toNat).length=h.toNat-l.toNat:=by simp;omega
     have C:∀(i:Nat) d,((xs.take h.toNat).drop l.toNat)[i]? =some d->xs[l.toNat+i]? =some d:=by
      intro i d U;rw[gC,qS]at U;split at U
      ·exact U
      ·cases U
     have:=D.At.sl (w:=w) (X:=ownX ι X) ((xs.take h.toNat).drop l.toNat) b (N+l.toNat*s) (cap-l.toNat) s (by rw[L];omega) xA
      (λ d G=>hsz d (gT (jS G))) (λ i j=>vals (l.toNat+i) j)
      (λ i d j c U hj=>by
       have:=hv (l.toNat+i) d j c (C i d U) hj;rw[show N+l.toNat*s+i*s+j=N+(l.toNat+i)*s+j by rw[qN];omega];exact this)
      (λ i d j c U hj=>hat (l.toNat+i) d j c (C i d U) hj)
     rw[L]at this;rw[<-hs];exact .d _ _ this
   |_=>simp[fY]at Z
  |ref o s N K cap R b hι q hcc hm hss=>
   simp only[fY,yM]at Z;subst Z;simp only[y9]at E;refine M.goes G (run _ R O q) ?_;simp only[sw];by_cases he:R=l.toNat
   ·rw[if_pos he];have I:h.toNat-l.toNat=0:=xA;have H:cap-l.toNat=0:=xA;have e3:R-l.toNat=0:=xA;rw[I,H,e3];exact .ref0 _ _ _ _
   ·rw[if_neg he];simp only[qB,gg];have:=PV.At.ref (w:=w) (X:=X) o s (N+l.toNat) (h.toNat-l.toNat) (cap-l.toNat) (R-l.toNat) b hι xA xA xA
     (by rw[<-hss];congr 1;omega)
    rw[qN]at this;rw[<-E];exact this
  |ref0 o s N Y=>
   simp only[fY,yM]at Z;subst Z;have I:l.toNat=0:=xA;have H:h.toNat=0:=xA;refine M.goes G (run Y 0 O xA) ?_;rw[I,H,if_pos rfl];exact .ref0 _ _ _ _
  |nilS=>
   simp only[fY,yM]at Z;subst Z;have I:l.toNat=0:=xA;have H:h.toNat=0:=xA;refine M.goes G (run none 0 O xA) ?_;rw[I,H,if_pos rfl];exact .nilS
  |z0 Y=>
   simp only[fY,yM]at Z;subst Z;have I:l.toNat=0:=xA;have H:h.toNat=0:=xA;refine M.goes G (run Y 0 O xA) ?_;rw[I,H,if_pos rfl];exact .z0 _
  |_=>simp[fY]at Z
 ·rename_i h m J hm;obtain⟨hk,hne,hhs,rfl,rfl,rfl⟩:=A;simp only[Z,F,J,hm];rw[bH];have hu:=gy hk;have Q:=oT (P:=P) (u:=(tyi P T).elem) hne w;cases mx with
  |none=>cases hm
  |some z=>
   cases U with
   |none=>simp at hhs
   |some y=>
    simp only[qB,yM]at hm J;have ez:a.eval z= .int .i64 0:=by
     have:=M.ev (hmx z rfl);rw[hm]at this;exact cP this
    have ey:a.eval y= .int .i64 0:=by
     have:=M.ev (hhi y rfl);generalize S.ev y=p at J this;unfold j7 at J;split at J
     ·rename_i V;cases V
     ·rename_i V;cases V;cases J;exact cP this
     ·cases J
    have el:∀x,lo=some x->a.eval x= .int .i64 0:=by
     rintro x rfl;have:=M.ev (hlo x rfl);simp only[qB]at F;generalize S.ev x=p at F this;unfold j7 at F;split at F
     ·rename_i V;cases V
     ·rename_i V;cases V;cases F;exact cP this
     ·cases F
    have hsl:∃Y K cap,a.eval x= .slice Y K cap:=by
     generalize a.eval x=va at hp;generalize S.ev x=p at hp Z;cases hp with
     |d _ _ h=>cases h<;>first|exact⟨_,_,_,rfl⟩|simp[fY]at Z
     |ref=>exact⟨_,_,_,rfl⟩
     |ref0=>exact⟨_,_,_,rfl⟩
     |nilS=>exact⟨_,_,_,rfl⟩
     |z0=>exact⟨_,_,_,rfl⟩
     |_=>simp[fY]at Z
    obtain⟨Y,K,cap,hv⟩:=hsl;have b0:∀(y:Nat) (c:BoundsCode),(Instr.sliceBound (.int .i64 0) y c).run P w= .ok 0 w:=λ y c=>vE (m:=0) rfl xA xA
    refine M.goes (v:= .slice Y 0 0) G ?_ (.z0 Y);cases lo with
    |none=>simp[execOp,Instr.sliceAt,Instr.slice,Instr.sliceBounds,run_underlying hu,hv,ez,ey,b0,Q]
    |some x'=>simp[execOp,Instr.sliceAt,Instr.slice,Instr.sliceBounds,run_underlying hu,hv,ez,ey,b0,Q,el x' rfl]
 ·exact A.elim
end hold
end Go.PS
