/- Own rows of own rows: a family of objects ed numbers of its own. -/
import Derived.Test.YtjjbhjnpeenbkaaGreatDoorPSCode
set_option linter.unusedSimpArgs false
set_option linter.unusedVariables false
set_option maxHeartbeats 16000000
namespace Go.PS
open Go
def fid (j i:Nat):Nat:=1125899906842624*j+i
structure Fam where
 j:Nat
 o:Nat
 sz:Nat
 n:Nat
 rows:Nat->List D
def bS (n:Nat)(r:Nat->PV):List PV:=(List.range n).map r
def Fam.ref (f:Fam)(i:Nat):PV:= .ref (fid f.j i) f.sz 0 (f.rows i).length (f.rows i).length
def aN :List Fam->(Nat->Ob)->Nat->Ob
 |[],b=>b
 |f::Z,b=>λ x=>if x=f.o then .cells (bS f.n f.ref)else if fid f.j 0<=x/\x<fid f.j f.n then .row f.sz (f.rows (x-fid f.j 0))else aN Z b x
theorem sh {n:Nat}{r:Nat->PV}{i:Nat}(h:i<n):(bS n r)[i]? =some (r i):=by simp[bS,h]
theorem QA {n:Nat}{r:Nat->PV}{i:Nat}{p:PV}(h:(bS n r)[i]? =some p):i<n/\p=r i:=by
 by_cases Z:i<n
 ·rw[sh Z]at h;cases h;exact⟨Z,rfl⟩
 ·rw[uL (by simp[bS];omega)]at h;cases h
inductive PV.In (dom:Nat->Prop):PV->Prop
 |d (x:D):PV.In dom (.d x)
 |ref (o sz off len cap:Nat) (h:dom o):PV.In dom (.ref o sz off len cap)
 |ptr (o sz i c:Nat) (h:dom o):PV.In dom (.ptr o sz i c)
 |nilS:PV.In dom .nilS
 |z0:PV.In dom .z0
 |ag (cs:List PV) (h:∀c,c∈cs->PV.In dom c):PV.In dom (.ag cs)
 |tup (cs:List PV) (h:∀c,c∈cs->PV.In dom c):PV.In dom (.tup cs)
 |fn (f:FuncId) (cs:List PV) (h:∀c,c∈cs->PV.In dom c):PV.In dom (.fn f cs)
 |unk:PV.In dom .unk
 |und:PV.In dom .und
 |ab:PV.In dom .ab
 |mp (o:Nat) (h:dom o):PV.In dom (.mp o)
 |ifp (T o:Nat) (h:dom o):PV.In dom (.ifp T o)
inductive Ob.In (dom:Nat->Prop):Ob->Prop
 |dead:Ob.In dom .dead
 |gone:Ob.In dom .gone
 |row (sz:Nat) (l:List D):Ob.In dom (.row sz l)
 |imap (l:List (Int×Int)):Ob.In dom (.imap l)
 |iter (m k:Nat) (sn:List Nat) (h:dom m):Ob.In dom (.iter m k sn)
 |cells (cs:List PV) (h:∀c,c∈cs->PV.In dom c):Ob.In dom (.cells cs)
theorem PV.In.mono {dom Z:Nat->Prop}{p:PV}(h:PV.In dom p)(U:∀o,dom o->Z o):PV.In Z p:=by
 induction h with
 |d x=>exact .d x
 |ref o s R len cap h=>exact .ref _ _ _ _ _ (U o h)
 |ptr o s i c h=>exact .ptr _ _ _ _ (U o h)
 |nilS=>exact .nilS
 |z0=>exact .z0
 |ag Y _ V=>exact .ag Y V
 |tup Y _ V=>exact .tup Y V
 |fn f Y _ V=>exact .fn f Y V
 |unk=>exact .unk
 |und=>exact .und
 |ab=>exact .ab
 |mp o h=>exact .mp o (U o h)
 |ifp T o h=>exact .ifp T o (U o h)
theorem Ob.In.mono {dom Z:Nat->Prop}{p:Ob}(h:Ob.In dom p)(Y:∀o,dom o->Z o):Ob.In Z p:=by
 cases h with
 |dead=>exact .dead
 |gone=>exact .gone
 |row T l=>exact .row T l
 |imap l=>exact .imap l
 |iter m k s h=>exact .iter m k s (Y m h)
 |cells V h=>exact .cells V λ c U=>(h c U).mono Y
theorem tS {L:List Nat}:∀(k:Nat) (p:PV),p.only L k=true->PV.In (·∈L) p:=by
 intro k
 induction k with
 |zero=>intro p h;simp[PV.only]at h
 |succ k V=>
  intro p h;cases p with
  |d x=>exact .d x
  |ref o s U len cap=>simp only[PV.only,yV,uG]at h;exact .ref _ _ _ _ _ h
  |ptr o s i c=>simp only[PV.only,yV,uG]at h;exact .ptr _ _ _ _ h
  |nilS=>exact .nilS
  |z0=>exact .z0
  |unk=>exact .unk
  |und=>exact .und
  |ab=>exact .ab
  |mp o=>simp only[PV.only,yV,uG]at h;exact .mp _ h
  |ifp T o=>simp only[PV.only,yV,uG]at h;exact .ifp _ _ h
  |ag Z=>simp only[PV.only,yF]at h;exact .ag Z λ c Y=>V c (h c Y)
  |tup Z=>simp only[PV.only,yF]at h;exact .tup Z λ c Y=>V c (h c Y)
  |fn f Z=>simp only[PV.only,yF]at h;exact .fn f Z λ c Y=>V c (h c Y)
theorem xF {L:List Nat}{Z:Ob}(h:Z.only L=true):Ob.In (·∈L) Z:=by
 cases Z with
 |dead=>exact .dead
 |gone=>exact .gone
 |row U l=>exact .row U l
 |imap l=>exact .imap l
 |iter m k s=>simp only[Ob.only,yV,uG]at h;exact .iter m k s h
 |cells Y=>simp only[Ob.only,yF]at h;exact .cells Y λ c V=>tS 4 c (h c V)
theorem G3 {dom:Nat->Prop}{g U:Nat->Nat}{p:PV}(h:PV.In dom p)(Y:∀o,dom o->g o=U o):p.ren g=p.ren U:=by
 induction h with
 |ref o s R len cap h=>simp only[PV.ren,Y o h]
 |ptr o s i c h=>simp only[PV.ren,Y o h]
 |mp o h=>simp only[PV.ren,Y o h]
 |ifp T o h=>simp only[PV.ren,Y o h]
 |ag V _ Z=>simp only[PV.ren,PV.renL_eq];rw[yK Z]
 |tup V _ Z=>simp only[PV.ren,PV.renL_eq];rw[yK Z]
 |fn f V _ Z=>simp only[PV.ren,PV.renL_eq];rw[yK Z]
 |_=>simp only[PV.ren]
theorem QK {dom:Nat->Prop}{g Z:Nat->Nat}{p:Ob}(h:Ob.In dom p)(Y:∀o,dom o->g o=Z o):p.ren g=p.ren Z:=by
 cases h with
 |cells U h=>simp only[Ob.ren];rw[yK λ c V=>G3 (h c V) Y]
 |iter m k s h=>simp only[Ob.ren,Y m h]
 |_=>simp only[Ob.ren]
theorem ug {dom:Nat->Prop}{g:Nat->Nat}{p:PV}(h:PV.In dom p)(Y:∀o,dom o->g o=o):p.ren g=p:=by
 induction h with
 |ref o s U len cap h=>simp only[PV.ren,Y o h]
 |ptr o s i c h=>simp only[PV.ren,Y o h]
 |mp o h=>simp only[PV.ren,Y o h]
 |ifp T o h=>simp only[PV.ren,Y o h]
 |ag V _ Z=>simp only[PV.ren,PV.renL_eq];rw[yK Z,List.map_id']
 |tup V _ Z=>simp only[PV.ren,PV.renL_eq];rw[yK Z,List.map_id']
 |fn f V _ Z=>simp only[PV.ren,PV.renL_eq];rw[yK Z,List.map_id']
 |_=>simp only[PV.ren]
theorem G1 {dom:Nat->Prop}{g:Nat->Nat}{p:Ob}(h:Ob.In dom p)(Z:∀o,dom o->g o=o):p.ren g=p:=by
 cases h with
 |cells V h=>simp only[Ob.ren];rw[yK λ c Y=>ug (h c Y) Z,List.map_id']
 |iter m k s h=>simp only[Ob.ren,Z m h]
 |_=>simp only[Ob.ren]
theorem vb {w:World}{ι N:Nat->Option Nat}{X:Nat->Prop}{g:Nat->Nat}{dom:Nat->Prop}(U:∀i,dom i->N i=ι (g i))(hX:∀b,ownX N X b->ownX ι X b){p:PV}(h:PV.In dom p):
  ∀v,PV.At w ι X (p.ren g) v->PV.At w N X p v:=by
 induction h with
 |d x=>intro v Z;simp only[PV.ren]at Z;cases Z with|d _ _ h=>exact .d _ _ (h.sub hX)
 |ref o s G len cap h=>
  intro v Z;simp only[PV.ren]at Z;cases Z with
  |ref _ _ _ _ _ L b O E F C A=>exact .ref o s G len cap L b ((U o h).trans O) E F C A
  |ref0 _ _ _ M=>exact .ref0 _ _ _ M
 |ptr o s i c h=>intro v Z;simp only[PV.ren]at Z;cases Z with|ptr _ _ _ _ b O=>exact .ptr o s i c b ((U o h).trans O)
 |nilS=>intro v Z;simp only[PV.ren]at Z;cases Z;exact .nilS
 |z0=>intro v Z;simp only[PV.ren]at Z;cases Z;exact .z0 _
 |unk=>intro v _;exact .unk _
 |und=>intro v Z;simp only[PV.ren]at Z;cases Z;exact .und
 |ab=>intro v Z;simp only[PV.ren]at Z;cases Z;exact .ab _
 |mp o h=>intro v Z;simp only[PV.ren]at Z;cases Z with|mp _ b O=>exact .mp o b ((U o h).trans O)
 |ifp T o h=>intro v Z;simp only[PV.ren]at Z;cases Z with|ifp _ _ b O=>exact .ifp T o b ((U o h).trans O)
 |ag K _ H=>
  intro v Z;simp only[PV.ren,PV.renL_eq]at Z;cases Z with|ag _ arr V J Y=>exact .ag K arr (by simpa using V) J λ j p v R I=>H p (uA R) v (Y j _ v (by rw[uJ,R];rfl) I)
 |tup K _ H=>
  intro v Z;simp only[PV.ren,PV.renL_eq]at Z;cases Z with|tup _ arr V Y=>exact .tup K arr (by simpa using V) λ j p v R I=>H p (uA R) v (Y j _ v (by rw[uJ,R];rfl) I)
 |fn f K _ H=>
  intro v Z;simp only[PV.ren,PV.renL_eq]at Z;cases Z with|fn _ _ arr V Y=>exact .fn f K arr (by simpa using V) λ j p v R I=>H p (uA R) v (Y j _ v (by rw[uJ,R];rfl) I)
theorem AH {w:World}{ι M:Nat->Option Nat}{X:Nat->Prop}{g:Nat->Nat}{dom:Nat->Prop}(Z:∀i,dom i->M i=ι (g i))(hX:∀b,ownX M X b->ownX ι X b){o:Nat}{G:Ob}(L:dom o)(h:Ob.In dom G)
  (U:Ob.At w ι X (g o) (G.ren g)):Ob.At w M X o G:=by
 cases h with
 |gone=>exact .gone
 |dead=>simp only[Ob.ren]at U;cases U with|dead h=>exact .dead ((Z o L).trans h)
 |cells E h=>
  simp only[Ob.ren]at U;cases U with
  |cells _ b c T O Y N V R=>
   exact .cells E b c T ((Z o L).trans O) Y (by simpa using N) V λ j p v K H=>vb Z hX (h p (uA K)) v (R j _ v (by rw[uJ,K];rfl) H)
 |row s l=>
  simp only[Ob.ren]at U;cases U with
  |row0 _ h=>exact .row0 s ((Z o L).trans h)
  |row _ _ b c T O Y N J V R=>exact .row s l b c T ((Z o L).trans O) Y N J V λ i d j e v z K H=>(R i d j e v z K H).sub hX
 |imap l=>
  simp only[Ob.ren]at U;cases U with
  |imap _ b C clock O Y A=>exact .imap l b C clock ((Z o L).trans O) Y A
 |iter m k sn I=>
  simp only[Ob.ren]at U;cases U with
  |iter _ _ _ b F O q Y=>exact .iter m k sn b F ((Z o L).trans O) ((Z m I).trans q) Y
theorem DX {S T:St}(g:Nat->Nat)(dom:Nat->Prop)(z:∀t,T.env t= .unk\/(S.env t=(T.env t).ren g/\(T.env t).In dom))(J:∀o,dom o->S.objs (g o)=(T.objs o).ren g/\(T.objs o).In dom)
  (q:∀o,¬dom o->T.objs o= .dead)(h5:∀i,dom i->∀j,dom j->g i=g j->i=j)(h6:∀o,dom o->((o<1000\/2000<=o)/\(g o<1000\/2000<=g o))\/g o=o)
  (h7:∀o,1000<=o->o<2000->¬dom o->S.objs o= .dead):Ent S T:=by
 rw[mn];intro B X w0 n a w K Y;have F:=λ o=>Classical.propDecidable (dom o)
 let V:Nat->Option Nat:=λ o=>if dom o then K (g o)else none
 have U:∀o,dom o->V o=K (g o):=λ o Z=>if_pos Z
 have sub:∀o b,V o=some b->dom o/\K (g o)=some b:=by
  intro o b h;by_cases Z:dom o
  ·rw[U o Z]at h;exact⟨Z,h⟩
  ·simp only[V,if_neg Z]at h;cases h
 have s:∀b,ownX V X b->ownX K X b:=by
  rintro b (M|⟨o,M⟩)
  ·exact .inl M
  ·exact .inr ⟨_,(sub o b M).2⟩
 have R:∀o,dom o->T.objs o≠ .gone->S.objs (g o)≠ .gone:=by
  intro o Z hg;rw[(J o Z).1];exact λ he=>hg (si.1 he)
 refine⟨V,Y.size,Y.defers,Y.frame,Y.hB,Y.hXB,λ o H b f C e E=>?_,λ o b e=>Y.free _ b (sub o b e).2,λ t=>?_,λ o=>?_,λ o b M=>?_⟩
 ·obtain⟨O,N⟩:=sub o b e;obtain⟨L,A⟩:=sub H b E;exact h5 o O H L (Y.inj _ _ b (R o O f) (R H L C) N A)
 ·rcases z t with h|⟨h,I⟩
  ·rw[h];exact .unk _
  ·have:=Y.env t;rw[h]at this;exact vb U s I _ this
 ·by_cases Z:dom o
  ·have G:=Y.objs (g o);rw[(J o Z).1]at G;exact AH U s Z (J o Z).2 G
  ·rw[q o Z];exact .dead (if_neg Z)
 ·obtain⟨O,N,L⟩:=Y.stay o b M;refine⟨O,?_,L⟩;by_cases Z:dom o
  ·rw[U o Z];rcases h6 o Z with h|h
   ·omega
   ·rw[h];exact N
  ·have:=Y.dead (h7 o O.1 O.2 Z);rw[this]at N;cases N
theorem tu (σ:List (Nat×Nat))(x:Nat):gOf σ x=x\/∃p,p∈σ/\p.1=x/\gOf σ x=p.2:=by
 induction σ with
 |nil=>exact .inl rfl
 |cons p σ T=>
  obtain⟨a,b⟩:=p;by_cases h:x=a
  ·subst h;exact .inr ⟨(x,b),xB,rfl,if_pos rfl⟩
  ·have Y:gOf ((a,b)::σ) x=gOf σ x:=if_neg h;rcases T with Z|⟨p,Z,V,U⟩
   ·exact .inl (Y.trans Z)
   ·exact .inr ⟨p,uP _ Z,V,Y.trans U⟩
def n9 (F:List Fam):Prop:=(F.map (·.j)).Nodup/\(F.map (·.o)).Nodup/\∀f,f∈F->1<=f.j/\f.o<1125899906842624/\f.n<=1125899906842624
theorem n9.tail {f:Fam}{F:List Fam}(h:n9 (f::F)):n9 F:=by
 obtain⟨Z,Y,V⟩:=h;simp only[uS,qI]at Z Y;exact⟨Z.2,Y.2,λ g U=>V g (uP _ U)⟩
theorem wk {j Y i Z:Nat}(h:fid j i=fid Y Z)(V:i<1125899906842624)(U:Z<1125899906842624):j=Y/\i=Z:=by
 simp only[fid]at h;omega
theorem xw {base:Nat->Ob}:∀{F:List Fam} {f:Fam},n9 F->f∈F->aN F base f.o= .cells (bS f.n f.ref)
 |[],f,_,h=>by cases h
 |g::F,f,Z,h=>by
  simp only[aN];rcases yI.1 h with rfl|V
  ·rw[if_pos rfl]
  ·have Y:f.o≠g.o:=by
    intro U;have:=Z.2.1;simp only[uS,qI]at this;exact this.1 (uR.2 ⟨f,V,U⟩)
   have T:=Z.2.2 f h;have R:=Z.2.2 g xB;rw[if_neg Y,if_neg (by simp only[fid];omega)];exact xw Z.tail V
theorem xv {base:Nat->Ob}:∀{F:List Fam} {f:Fam} {i:Nat},n9 F->f∈F->i<f.n->aN F base (fid f.j i)= .row f.sz (f.rows i)
 |[],f,_,_,h,_=>by cases h
 |g::F,f,i,Z,h,U=>by
  simp only[aN];have R:=Z.2.2 f h;have O:=Z.2.2 g xB;rw[if_neg (by simp only[fid];omega)];rcases yI.1 h with rfl|Y
  ·rw[if_pos (by simp only[fid];omega)]
   congr 2;simp only[fid];omega
  ·have T:f.j≠g.j:=by
    intro V;have:=Z.1;simp only[uS,qI]at this;exact this.1 (uR.2 ⟨f,Y,V⟩)
   rw[if_neg (by simp only[fid];omega)];exact xv Z.tail Y U
theorem pW {base:Nat->Ob}:∀{F:List Fam} {x:Nat},(∀f,f∈F->x≠f.o/\∀i,i<f.n->x≠fid f.j i)->aN F base x=base x
 |[],_,_=>rfl
 |g::F,x,h=>by
  simp only[aN];have Z:=h g xB;rw[if_neg Z.1,if_neg (λ V=>Z.2 (x-fid g.j 0) (by simp only[fid]at*;omega) (by simp only[fid]at*;omega))];exact pW λ f Y=>h f (uP _ Y)
def mR (S:St)(L:List (Nat×PV))(F:List Fam)(M:List (Nat×Ob)):Prop:=Ent S ⟨cZ L,aN F (aL M)⟩
theorem wa {S:St}(V σ:List (Nat×Nat))(L:List (Nat×PV))(F:List Fam)(M:List (Nat×Ob))
  (hL:∀p∈L,S.env p.1=p.2.ren (gOf σ))(hM:∀q∈M,S.objs (gOf σ q.1)=q.2.ren (gOf σ))
  (hF:∀f∈F,∃r,S.objs (gOf σ f.o)= .cells (bS f.n r)/\∀i,i<f.n->r i= .ref (gOf V (fid f.j i)) f.sz 0 (f.rows i).length (f.rows i).length/\S.objs (gOf V (fid f.j i))= .row f.sz (f.rows i))
  (I:∀f∈F,1<=f.j/\f.o<1125899906842624/\f.n<=1125899906842624)
  (c1:(L.all λ p=>p.2.only (F.map (·.o)++M.map (·.1)) 4)=true)(c2:(M.all λ q=>q.2.only (F.map (·.o)++M.map (·.1)))=true)
  (c3:((F.map (·.o)++M.map (·.1)).map (gOf σ)++V.map (·.2)).Nodup)(c4:(F.map (·.j)).Nodup)
  (c5:((F.map (·.o)++M.map (·.1)).all λ i=>(((decide (i<1000)||decide (2000<=i))&&(decide (gOf σ i<1000)||decide (2000<=gOf σ i)))||decide (gOf σ i=i))&&decide (i<1125899906842624)&&decide (gOf σ i<1125899906842624))=true)
  (c6:(V.all λ p=>(decide (p.2<1000)||decide (2000<=p.2))&&decide (p.2<1125899906842624))=true)
  (c7:dT (F.map (·.o)++M.map (·.1)) S.objs):mR S L F M:=by
 generalize N:F.map (·.o)++M.map (·.1)=J at*;simp only[yF,uN,gI,uG]at c1 c2 c5 c6;have O:=gP.1 c3;have hinj0:∀i∈J,∀j∈J,gOf σ i=gOf σ j->i=j:=by
  have key:∀(l:List Nat),(l.map (gOf σ)).Nodup->∀i∈l,∀j∈l,gOf σ i=gOf σ j->i=j:=by
   intro l
   induction l with
   |nil=>intro _ i T;cases T
   |cons a l ih=>
    intro I i T j hj Y;simp only[uS,qI]at I;rcases yI.1 T with A|A<;>rcases yI.1 hj with hj'|hj'
    ·rw[A,hj']
    ·exact absurd (uR.2 ⟨j,hj',by rw[<-Y,A]⟩) I.1
    ·exact absurd (uR.2 ⟨i,A,by rw[Y,hj']⟩) I.1
    ·exact ih I.2 i A j hj' Y
  exact key J O.1
 have hidn:J.Nodup:=by
  have:∀(l:List Nat),(l.map (gOf σ)).Nodup->l.Nodup:=by
   intro l
   induction l with
   |nil=>intro _;exact zL
   |cons a l ih=>
    intro I;simp only[uS,qI]at I;exact qI.2 ⟨λ hm=>I.1 (uR.2 ⟨a,hm,rfl⟩),ih I.2⟩
  exact this J O.1
 have hsp:=gP.1 (show(F.map (·.o)++M.map (·.1)).Nodup by rw[N];exact hidn);have ha:n9 F:=⟨c4,hsp.1,I⟩;have hMn:(M.map (·.1)).Nodup:=hsp.2.1;have R:∀i∈J,i<1125899906842624:=λ i T=>(c5 i T).1.2
 have C:∀f∈F,∀i,1125899906842624<=fid f.j i:=λ f U i=>by
  have:=(I f U).1;simp only[fid];omega
 have hobo:∀f∈F,aN F (aL M) f.o= .cells (bS f.n f.ref):=λ f U=>xw ha U
 have hobM:∀q∈M,aN F (aL M) q.1=q.2:=by
  intro q hq;rw[pW λ f U=>⟨λ Y=>?_,λ i T Y=>?_⟩]
  ·exact oK M hMn q hq
  ·exact hsp.2.2 f.o (uR.2 ⟨f,U,rfl⟩) q.1 (uR.2 ⟨q,hq,rfl⟩) Y.symm
  ·have:=R q.1 (by rw[<-N];exact Az _ (uR.2 ⟨q,hq,rfl⟩));have:=C f U i;omega
 refine DX (λ x=>if x<1125899906842624 then gOf σ x else gOf V x) (λ x=>x∈J\/∃f∈F,∃i,i<f.n/\x=fid f.j i) (λ t=>?_) (λ o Z=>?_) (λ o Z=>?_) (λ x H y E Y=>?_) (λ o Z=>?_) (λ o h1 h2 Z=>?_)
 ·show cZ L t= .unk\/_;rcases tn L t with h|⟨p,G,h⟩
  ·exact .inl h
  ·right
   have s:=tS 4 _ (c1 (t,p) G);have e:(⟨cZ L,aN F (aL M)⟩:St).env t=p:=h;rw[e];refine⟨(hL (t,p) G).trans (G3 s λ o Z=>?_),s.mono λ o Z=> .inl Z⟩;rw[if_pos (R o Z)]
 ·show S.objs _=(aN F (aL M) o).ren _/\(aN F (aL M) o).In _;rcases Z with Z|⟨f,U,i,T,rfl⟩
  ·simp only[if_pos (R o Z)];rw[<-N]at Z;rcases yP.1 Z with Z|Z
   ·obtain⟨f,U,rfl⟩:=uR.1 Z;obtain⟨r,h1,h2⟩:=hF f U;rw[hobo f U];refine⟨?_, .cells _ λ c hc=>?_⟩
    ·rw[h1];simp only[Ob.ren]
     congr 1
     simp only[bS,gU];refine yK λ i T=>?_
     have T:=yD.1 T;rw[(h2 i T).1];simp only[Function.comp,Fam.ref,PV.ren];rw[if_neg (by have:=C f U i;omega)]
    ·simp only[bS,uR,yD]at hc;obtain⟨i,T,rfl⟩:=hc;exact .ref _ _ _ _ _ (.inr ⟨f,U,i,T,rfl⟩)
   ·obtain⟨q,hq,rfl⟩:=uR.1 Z;rw[hobM q hq];have s:=xF (c2 q hq);refine⟨(hM q hq).trans (QK s λ o Z=>?_),s.mono λ o Z=> .inl Z⟩;rw[if_pos (R o Z)]
  ·simp only[if_neg (show¬fid f.j i<1125899906842624 by have:=C f U i;omega)];obtain⟨r,h1,h2⟩:=hF f U;rw[xv ha U T];exact⟨(h2 i T).2, .row _ _⟩
 ·show aN F (aL M) o= .dead;rw[pW λ f U=>⟨λ Y=>?_,λ i T Y=>?_⟩]
  ·refine pV M o λ hm=>Z (.inl ?_)
   rw[<-N];exact Az _ hm
  ·exact Z (.inl (by rw[<-N];exact Cr _ (uR.2 ⟨f,U,Y.symm⟩)))
  ·exact Z (.inr ⟨f,U,i,T,Y⟩)
 ·have b:∀z,(∃f∈F,∃i,i<f.n/\z=fid f.j i)->¬z<1125899906842624:=by
   rintro z ⟨f,U,i,T,rfl⟩;have:=C f U i;omega
  have mixed:∀x y,x∈J->(∃f∈F,∃i,i<f.n/\y=fid f.j i)->gOf σ x=gOf V y->False:=by
   intro x y H E Y;have hb:=b y E;rcases tu V y with h|⟨p,G,h1,h2⟩
   ·have:=(c5 x H).2;omega
   ·exact O.2.2 (gOf σ x) (uR.2 ⟨x,H,rfl⟩) p.2 (uR.2 ⟨p,G,rfl⟩) (by rw[Y,h2])
  rcases H with H|H<;>rcases E with E|E
  ·simp only[if_pos (R x H),if_pos (R y E)]at Y;exact hinj0 x H y E Y
  ·simp only[if_pos (R x H),if_neg (b y E)]at Y;exact(mixed x y H E Y).elim
  ·simp only[if_neg (b x H),if_pos (R y E)]at Y;exact(mixed y x E H Y.symm).elim
  ·simp only[if_neg (b x H),if_neg (b y E)]at Y;have bx:=b x H;have byy:=b y E;rcases tu V x with h|⟨p,G,h1,h2⟩<;>rcases tu V y with h'|⟨p',K,h1',h2'⟩
   ·omega
   ·have:=(c6 p' K).2;omega
   ·have:=(c6 p G).2;omega
   ·have key:∀(l:List (Nat×Nat)),(l.map (·.2)).Nodup->∀p∈l,∀q∈l,p.2=q.2->p=q:=by
     intro l
     induction l with
     |nil=>intro _ p G;cases G
     |cons a l ih=>
      intro I p G q hq Y;simp only[uS,qI]at I;rcases yI.1 G with K|K<;>rcases yI.1 hq with hq'|hq'
      ·rw[K,hq']
      ·exact absurd (uR.2 ⟨q,hq',by rw[<-Y,K]⟩) I.1
      ·exact absurd (uR.2 ⟨p,K,by rw[Y,hq']⟩) I.1
      ·exact ih I.2 p K q hq' Y
    have:=key V O.2.1 p G p' K xA;rw[<-h1,<-h1',this]
 ·rcases Z with Z|⟨f,U,i,T,rfl⟩
  ·simp only[if_pos (R o Z)];exact(c5 o Z).1.1
  ·left
   have hb:=C f U i;simp only[if_neg (show¬fid f.j i<1125899906842624 by omega)];refine⟨xA,?_⟩;rcases tu V (fid f.j i)with h|⟨p,G,h1,h2⟩
   ·omega
   ·rw[h2];exact(c6 p G).1
 ·exact c7 o h1 h2 λ hm=>Z (.inl hm)
section rules
variable {P:Program}{B X:Nat->Prop}{w0:W0}{n:Nat}{Q:Exit->St->Prop}{S:St}
theorem dR {c:Code}{κ:Type}(Z:κ->Prop)(L:κ->List (Nat×PV))(F:κ->List Fam)(M:κ->List (Nat×Ob))(m:κ->Nat)(V:κ)(T:Z V)(R:mR S (L V) (F V) (M V))
  (round:∀k,Z k->PW P B X w0 n c (qj (λ U=>∃Y,Z Y/\mR U (L Y) (F Y) (M Y)/\m Y<m k) Q) ⟨cZ (L k),aN (F k) (aL (M k))⟩):PW P B X w0 n (.loop c) Q S:=
 GB (κ:={k:κ//Z k}) (λ k=>⟨cZ (L k.1),aN (F k.1) (aL (M k.1))⟩) (λ k=>m k.1) ⟨V,T⟩ R λ k=>GC (round k.1 k.2) λ e U h=>by
  cases e with
  |normal=>obtain⟨Y,O,N,K⟩:=h;exact⟨⟨Y,O⟩,N,K⟩
  |_=>exact h
end rules
theorem rp {S:St}(j o sz n:Nat)(K:S.objs o= .cells (List.replicate n .nilS))(s:∀i,i<n->S.objs (fid j i)= .dead)(hj:1<=j)(ho:o<1125899906842624):
  Ent S ⟨S.env,aN [⟨j,o,sz,n,λ _=>[]⟩] S.objs⟩:=by
 rw[mn];intro B X w0 m a w G Y;have Z:∀x,(x=o/\aN [⟨j,o,sz,n,λ _=>[]⟩] S.objs x= .cells (bS n (Fam.ref ⟨j,o,sz,n,λ _=>[]⟩)))\/(S.objs x= .dead/\aN [⟨j,o,sz,n,λ _=>[]⟩] S.objs x= .row sz [])\/
   (x≠o/\aN [⟨j,o,sz,n,λ _=>[]⟩] S.objs x=S.objs x):=by
  intro x;simp only[aN];by_cases V:x=o
  ·left;rw[if_pos V];exact⟨V,rfl⟩
  ·right
   rw[if_neg V];by_cases J:fid j 0<=x/\x<fid j n
   ·left;rw[if_pos J]
    have:=s (x-fid j 0) (by simp only[fid]at*;omega);rw[show fid j (x-fid j 0)=x by simp only[fid]at*;omega]at this;exact⟨this,rfl⟩
   ·right;rw[if_neg J];exact⟨V,rfl⟩
 have U:∀x,aN [⟨j,o,sz,n,λ _=>[]⟩] S.objs x≠ .gone->S.objs x≠ .gone:=by
  intro x V;rcases Z x with⟨rfl,_⟩|⟨h,_⟩|⟨_,h⟩
  ·rw[K];simp
  ·rw[h];simp
  ·rw[<-h];exact V
 refine⟨G,Y.size,Y.defers,Y.frame,Y.hB,Y.hXB,λ I H b C A F E=>Y.inj I H b (U I C) (U H A) F E,Y.free,Y.env,λ x=>?_,Y.stay⟩;show Ob.At w G X x (aN _ S.objs x);have V:=Y.objs x;rcases Z x with⟨rfl,h⟩|⟨h,z⟩|⟨_,h⟩
 ·rw[h];rw[K]at V;cases V with
  |cells _ b c T L q M R O=>
   refine .cells _ b c T L q (by simpa[bS]using M) R λ i p v hi hv=>?_
   obtain⟨N,rfl⟩:=QA hi;have:=O i .nilS v (by rw[gA,if_pos N]) hv;cases this;exact .ref0 _ _ _ _
 ·rw[z];exact .row0 _ (Y.dead h)
 ·rw[h];exact V
def fM (o:Nat)(dom:Nat->Prop)(Z:Nat->Ob):Prop:=∀x,x≠o->Ob.In dom (Z x)
def lf (j k:Nat)(Z:Nat->Ob):Nat->Ob:=upd (fid j k) .dead Z
theorem iR {o j k:Nat}{dom:Nat->Prop}{Z:Nat->Ob}(h:fM o dom Z):fM o dom (lf j k Z):=λ x Y=>by
 simp only[lf,upd];split
 ·exact .dead
 ·exact h x Y
theorem iU {o u sz:Nat}{l:List D}{dom:Nat->Prop}{Z:Nat->Ob}(h:fM o dom Z):fM o dom (upd u (.row sz l) Z):=λ x Y=>by
 simp only[upd];split
 ·exact .row _ _
 ·exact h x Y
theorem iP {o u:Nat}{dom:Nat->Prop}{Z:Nat->Ob}(h:fM o dom Z):fM o dom (upd u .dead Z):=λ x Y=>by
 simp only[upd];split
 ·exact .dead
 ·exact h x Y
theorem iV {o:Nat}{c:Ob}{dom:Nat->Prop}{Y:Nat->Ob}(h:fM o dom Y):fM o dom (upd o c Y):=λ x Z=>by
 simp only[upd,if_neg Z];exact h x Z
theorem iT {o j k u:Nat}{ids:List Nat}{M:List (Nat×Ob)}(h:(M.all λ q=>q.2.only ids)=true)(Y:(ids.all λ i=>decide (i<1125899906842624)&& !(Nat.beq i u))=true)(R:1<=j):
  fM o (λ x=>x≠fid j k/\x≠u) (aL M):=λ x _=>by
 rcases rS M x with⟨Z,_⟩|⟨p,Z,V⟩
 ·rw[Z];exact .dead
 ·rw[V];simp only[yF]at h Y;refine(xF (h (x,p) Z)).mono λ y T=>?_
  have:=Y y T;simp only[uN,uG,yL]at this;refine⟨by simp only[fid];omega,λ U=>?_⟩;have:=this.2;rw[U]at this;simp at this
theorem iW {j o sz n:Nat}{Z:Nat->List D}{dom:Nat->Prop}{F:List Fam}{base:Nat->Ob}(h:fM o dom (aN F base)):fM o dom (aN (⟨j,o,sz,n,Z⟩::F) base):=λ x Y=>by
 simp only[aN,if_neg Y];split
 ·exact .row _ _
 ·exact h x Y
theorem iQ {o j k u:Nat}{f:Fam}{F:List Fam}{base:Nat->Ob}(V:f.j≠j)(N:f.n<=1125899906842624)(U:k<1125899906842624)(M:u<1125899906842624)(R:1<=f.j)
  (h:fM o (λ x=>x≠fid j k/\x≠u) (aN F base)):fM o (λ x=>x≠fid j k/\x≠u) (aN (f::F) base):=λ x T=>by
 simp only[aN];split
 ·refine .cells _ λ c Z=>?_
  simp only[bS,uR,yD]at Z;obtain⟨i,O,rfl⟩:=Z;refine .ref _ _ _ _ _ ⟨λ Y=>V ?_,by simp only[fid];omega⟩;exact(wk Y xA U).1
 ·split
  ·exact .row _ _
  ·exact h x T
theorem iS {o:Nat}{dom:Nat->Prop}{base:Nat->Ob}(h:fM o dom base):fM o dom (aN [] base):=h
theorem jb (L:List (Nat×PV))(H:Nat->Ob)(ids:List Nat)(o k u j sz n:Nat){r:Nat->PV}{l:List D}(q:H o= .cells (bS n r))(s:H (fid j k)= .row sz l)(hr:r k= .ref (fid j k) sz 0 l.length l.length)
  (A:∀i,i<n->i≠k->(r i).In (λ x=>x≠fid j k/\x≠u))(E:fM o (λ x=>x≠fid j k/\x≠u) H)
  (hL:(L.all λ p=>p.2.only ids 4)=true)(R:(ids.all λ i=>decide (i<1125899906842624)&& !(Nat.beq i u))=true)
  (z:((decide (u<1000)||decide (2000<=u))&&decide (u<1125899906842624)&& !(Nat.beq o u)&&decide (1<=j)&&decide (o<1125899906842624))=true):
  Ent ⟨cZ L,H⟩ ⟨cZ L,upd u (.row sz l) (lf j k (upd o (.cells (bS n (upd k (.ref u sz 0 l.length l.length) r))) H))⟩:=by
 unfold lf;simp only[uN,gI,uG,yL]at z;obtain⟨⟨⟨⟨C,J⟩,I⟩,hj⟩,b⟩:=z;have hou:o≠u:=λ T=>by rw[T]at I;simp at I
 have U:∀x,x<1125899906842624->x≠fid j k:=λ x V=>by simp only[fid];omega
 simp only[yF,uN,uG,yL]at hL R;refine DX (λ x=>if x=u then fid j k else x) (λ x=>x≠fid j k) (λ t=>?_) (λ x V=>?_) (λ x V=>?_) (λ x V y Y T=>?_) (λ x V=>?_) (λ x N G V=>?_)
 ·rcases tn L t with h|⟨p,hp,h⟩
  ·exact .inl h
  ·right
   simp only[h];have O:=tS 4 _ (hL (t,p) hp);have F:∀y,y∈ids->y≠u:=λ y Y T=>by have:=(R y Y).2;rw[T]at this;simp at this
   exact⟨(ug O λ y Y=>if_neg (F y Y)).symm,O.mono λ y Y=>U y (R y Y).1⟩
 ·simp only[upd];by_cases N:x=u
  ·subst N;rw[if_pos rfl,if_pos rfl];exact⟨s, .row _ _⟩
  ·rw[if_neg N,if_neg N,if_neg V];by_cases G:x=o
   ·subst G;rw[if_pos rfl];refine⟨?_, .cells _ λ c M=>?_⟩
    ·rw[q];simp only[Ob.ren]
     congr 1
     simp only[bS,gU];refine yK λ i K=>?_
     have K:=yD.1 K;simp only[Function.comp];by_cases Z:i=k
     ·subst Z;rw[upd,if_pos rfl,hr];simp only[PV.ren,if_pos]
     ·rw[upd,if_neg Z];exact(ug (A i K Z) λ y Y=>if_neg Y.2).symm
    ·simp only[bS,uR,yD]at M;obtain⟨i,K,rfl⟩:=M;by_cases Z:i=k
     ·rw[upd,if_pos Z];exact .ref _ _ _ _ _ (U u J)
     ·rw[upd,if_neg Z];exact(A i K Z).mono λ y Y=>Y.1
   ·rw[if_neg G];have O:=E x G;exact⟨(G1 O λ y Y=>if_neg Y.2).symm,O.mono λ y Y=>Y.1⟩
 ·have V:x=fid j k:=Ba.1 V;subst V;show upd u _ _ _=_;rw[upd,if_neg (λ T=>U u J T.symm),upd,if_pos rfl]
 ·split at T<;>split at T
  ·omega
  ·exact absurd T.symm Y
  ·exact absurd T V
  ·exact T
 ·by_cases N:x=u
  ·subst N;left;rw[if_pos rfl];refine⟨C,?_⟩;simp only[fid];omega
  ·right;rw[if_neg N]
 ·have V:x=fid j k:=Ba.1 V;simp only[fid]at V;omega
theorem k6 (f:Fam)(F:List Fam)(L:List (Nat×PV))(M:List (Nat×Ob))(ha:n9 (f::F))(hMo:(M.all λ q=>decide (q.1<1125899906842624)&& !(Nat.beq q.1 f.o))=true)
  (ids:List Nat)(hL:(L.all λ p=>p.2.only ids 4)=true)(hM:(M.all λ q=>q.2.only ids)=true)(A:(ids.all λ i=>decide (i<1125899906842624))=true)
  (hng:(M.all λ q=>match q.2 with| .gone=>false|_=>true)=true):
  Ent ⟨cZ L,aN (f::F) (aL M)⟩ ⟨cZ L,aN F (aL ((f.o, .row 1 ((List.range f.n).map λ i=> .sl (f.rows i)))::M))⟩:=by
 rw[mn];intro B X w0 m a w ι N;have dec:=λ x=>Classical.propDecidable (∃i,i<f.n/\x=fid f.j i)
 have hf:=ha.2.2 f xB;simp only[yF,uN,uG,yL]at hL hM A hMo
 let Z:Nat->Option Nat:=λ x=>if∃i,i<f.n/\x=fid f.j i then none else ι x
 have R:∀x b,Z x=some b->(¬∃i,i<f.n/\x=fid f.j i)/\ι x=some b:=by
  intro x b h;by_cases J:∃i,i<f.n/\x=fid f.j i
  ·simp only[Z,if_pos J]at h;cases h
  ·simp only[Z,if_neg J]at h;exact⟨J,h⟩
 have hκ:∀x,(¬∃i,i<f.n/\x=fid f.j i)->Z x=ι x:=λ x J=>if_neg J
 have hX:∀b,ownX Z X b->ownX ι X b:=by
  rintro b (C|⟨o,C⟩)
  ·exact .inl C
  ·exact .inr ⟨o,(R o b C).2⟩
 have Y:∀x,aN (f::F) (aL M) x≠ .gone:=by
  have C:∀x,aL M x≠ .gone:=fa M hng;have:∀(F:List Fam) x,aN F (aL M) x≠ .gone:=by
   intro F
   induction F with
   |nil=>exact C
   |cons g F ih=>intro x;simp only[aN];split;· simp
                 · split
                   · simp
                   · exact ih x
  exact this _
 have hnb:∀i b,i<f.n->ι (fid f.j i)=some b->¬ownX Z X b:=by
  intro i b U hι;rintro(J|⟨o',ho'⟩)
  ·exact(N.free _ b hι).1 (N.hXB.1 b J)
  ·obtain⟨I,E⟩:=R o' b ho';exact I ⟨i,U,N.inj o' _ b (Y _) (Y _) E hι⟩
 have small:∀x,x<1125899906842624->¬∃i,i<f.n/\x=fid f.j i:=by
  rintro x J ⟨i,_,rfl⟩;simp only[fid]at J;omega
 have hpv:∀p v,PV.In (λ x=>¬∃i,i<f.n/\x=fid f.j i) p->PV.At w ι X p v->PV.At w Z X p v:=by
  intro p v V hp;refine vb (g:=λ x=>x) (dom:=λ x=>¬∃i,i<f.n/\x=fid f.j i) hκ hX V v ?_;rw[ug V λ _ _=>rfl];exact hp
 have hobv:∀x ob,(¬∃i,i<f.n/\x=fid f.j i)->Ob.In (λ x=>¬∃i,i<f.n/\x=fid f.j i) ob->Ob.At w ι X x ob->Ob.At w Z X x ob:=by
  intro x ob J V hp;refine AH (g:=λ x=>x) (dom:=λ x=>¬∃i,i<f.n/\x=fid f.j i) hκ hX J V ?_;rw[G1 V λ _ _=>rfl];exact hp
 have hnew:∀x,(x=f.o/\aN F (aL ((f.o, .row 1 ((List.range f.n).map λ i=> .sl (f.rows i)))::M)) x= .row 1 ((List.range f.n).map λ i=> .sl (f.rows i)))\/
   ((∃i,i<f.n/\x=fid f.j i)/\aN F (aL ((f.o, .row 1 ((List.range f.n).map λ i=> .sl (f.rows i)))::M)) x= .dead)\/
   (x≠f.o/\(¬∃i,i<f.n/\x=fid f.j i)/\aN F (aL ((f.o, .row 1 ((List.range f.n).map λ i=> .sl (f.rows i)))::M)) x=aN (f::F) (aL M) x):=by
  intro x;by_cases I:x=f.o
  ·left
   refine⟨I,?_⟩;subst I;rw[pW λ g O=>⟨λ K=>?_,λ i U K=>?_⟩]
   ·exact if_pos rfl
   ·have:=ha.2.1;simp only[uS,qI]at this;exact this.1 (uR.2 ⟨g,O,K.symm⟩)
   ·have:=(ha.2.2 g (uP _ O)).1;have h3:=hf.2.1;rw[K]at h3;simp only[fid]at h3;omega
  ·right
   by_cases E:∃i,i<f.n/\x=fid f.j i
   ·left
    refine⟨E,?_⟩;obtain⟨i,U,rfl⟩:=E;rw[pW λ g O=>⟨λ K=>?_,λ i' hi' K=>?_⟩]
    ·refine pV _ _ λ hm=>?_
     simp only[uS,yI]at hm;rcases hm with K|hm
     ·exact I K
     ·obtain⟨q,hq,K⟩:=uR.1 hm;have:=(hMo q hq).1;rw[K]at this;simp only[fid]at this;omega
    ·have:=(ha.2.2 g (uP _ O)).2.1;rw[<-K]at this;simp only[fid]at this;omega
    ·have hgn:=(ha.2.2 g (uP _ O)).2.2;have:=(wk K xA xA).1;have h5:=ha.1;simp only[uS,qI]at h5;exact h5.1 (uR.2 ⟨g,O,this.symm⟩)
   ·right
    refine⟨I,E,?_⟩;show _=aN (f::F) (aL M) x;simp only[aN];rw[if_neg I,if_neg (λ J=>E ⟨x-fid f.j 0,by simp only[fid]at*;omega,by simp only[fid]at*;omega⟩)];have e:∀(F:List Fam),aN F (aL ((f.o, .row 1 ((List.range f.n).map λ i=> .sl (f.rows i)))::M)) x=aN F (aL M) x:=by
     intro F
     induction F with
     |nil=>exact if_neg I
     |cons g F ih=>simp only[aN];rw[ih]
    exact e F
 refine⟨Z,N.size,N.defers,N.frame,N.hB,N.hXB,λ o1 o2 b _ _ e1 e2=>N.inj o1 o2 b (Y _) (Y _) (R o1 b e1).2 (R o2 b e2).2,λ o b C=>N.free o b (R o b C).2,λ t=>?_,λ x=>?_,λ o b C=>?_⟩
 ·have:=N.env t;show PV.At w Z X (cZ L t) _;have this:PV.At w ι X (cZ L t) _:=this;rcases tn L t with h|⟨p,hp,h⟩
  ·rw[h];exact .unk _
  ·rw[h]at this|-;exact hpv p _ ((tS 4 _ (hL (t,p) hp)).mono λ y hy=>small y (A y hy)) this
 ·show Ob.At w Z X x (aN F (aL ((f.o, .row 1 ((List.range f.n).map λ i=> .sl (f.rows i)))::M)) x);rcases hnew x with⟨rfl,h⟩|⟨J,h⟩|⟨I,E,h⟩
  ·rw[h];have ho:=N.objs f.o;rw[show(⟨cZ L,aN (f::F) (aL M)⟩:St).objs f.o= .cells (bS f.n f.ref)from xw ha xB]at ho;cases ho with
   |cells _ b c T hι C hsz hone hat=>
    refine .row 1 _ b c T ((hκ _ (small _ hf.2.1)).trans hι) C (by simp[bS]at hsz|-;omega) (λ d hd=>?_) hone λ i d j e v U z hv=>?_
    ·obtain⟨i,_,rfl⟩:=uR.1 hd;rfl
    ·rw[uJ]at U;cases hr:(List.range f.n)[i]? with
     |none=>rw[hr]at U;cases U
     |some i'=>
      rw[hr]at U;have V:i<f.n:=by simpa using(uB.1 hr).1
      have hii:i'=i:=by rw[yZ V]at hr;cases hr;rfl
      subst hii;simp only[qB,yM]at U;subst U;have hj0:j=0/\e= .sl (f.rows i'):=by
       simp only[D.cells]at z;cases j with
       |zero=>simp at z;exact⟨rfl,z.symm⟩
       |succ j=>simp at z
      obtain⟨rfl,rfl⟩:=hj0;rw[kS,gX]at hv;have H:=hat i' (f.ref i') v (sh V) hv;have hrow:=N.objs (fid f.j i');rw[show(⟨cZ L,aN (f::F) (aL M)⟩:St).objs (fid f.j i')= .row f.sz (f.rows i')from xv ha xB V]at hrow;have hnbi:=λ b=>hnb i' b V
      simp only[Fam.ref]at H;generalize f.rows i'=l at H hrow|-;generalize s:l.length=len at H;cases H with
      |ref0 _ _ _ base=>
       have:l=[]:=gQ.1 s;subst this;exact .slnil _ _
      |ref _ _ _ _ _ capr b' G hl hc hm hs=>
       cases hrow with
       |row0 _ h=>rw[h]at G;cases G
       |row _ _ b2 c' T' hι'' hb' hsz' hcl' hone' hat''=>
        obtain rfl:b2=b':=by rw[hι'']at G;exact Ct G
        have cell:∀(i:Nat) d (j:Nat) e,l[i]? =some d->d.cells[j]? =some e->∃v,c'[i*f.sz+j]? =some v/\v.oneCell'=true/\D.At w (ownX Z X) e v:=by
         intro i d j e U z;have hjs:j<f.sz:=by rw[<-hcl' d (uA U)];exact(uB.1 z).1
         have hil:=(uB.1 U).1;have hlt:i*f.sz+j<c'.size:=by
          have:(i+1)*f.sz<=l.length*f.sz:=yR _ xA;rw[qN]at this;omega
         have O:c'[i*f.sz+j]? =some c'[i*f.sz+j]:=yC hlt;exact⟨_,O,hone' _ _ O,(hat'' i d j e _ U z O).sub hX⟩
        have:=D.At.sl (w:=w) (X:=ownX Z X) l b2 (0*f.sz) capr f.sz (by rw[s];exact hl) hm hcl'
         (λ i j=>(w.cell? ⟨b2,0*f.sz+i*f.sz+j,none⟩).getD undef) (λ i d j e U z=>by
          obtain⟨v,g2,g3,g4⟩:=cell i d j e U z;have hc:w.cell? ⟨b2,0*f.sz+i*f.sz+j,none⟩=some v:=by rw[fE hb',jP,yU];exact g2
          rw[hc];exact⟨rfl,g3,hnbi b2 hι''⟩) (λ i d j e U z=>by
          obtain⟨v,g2,g3,g4⟩:=cell i d j e U z;have hc:w.cell? ⟨b2,0*f.sz+i*f.sz+j,none⟩=some v:=by rw[fE hb',jP,yU];exact g2
          rw[hc];exact g4)
        rw[s]at this;exact this
  ·rw[h];exact .dead (if_pos J)
  ·rw[h];refine hobv x _ E ?_ (N.objs x);have e:∀(F:List Fam),(∀g,g∈F->g.j≠f.j/\g.n<=1125899906842624)->∀x,Ob.In (λ x=>¬∃i,i<f.n/\x=fid f.j i) (aN F (aL M) x):=by
    intro F
    induction F with
    |nil=>
     intro _ x;show Ob.In _ (aL M x);rcases rS M x with⟨I,_⟩|⟨p,I,E⟩
     ·rw[I];exact .dead
     ·rw[E];exact(xF (hM (x,p) I)).mono λ y hy=>small y (A y hy)
    |cons g F ih=>
     intro O x;simp only[aN];split
     ·refine .cells _ λ c hc=>?_
      simp only[bS,uR,yD]at hc;obtain⟨i,U,rfl⟩:=hc;refine .ref _ _ _ _ _ ?_;rintro⟨i',hi',K⟩;have:=O g xB;exact this.1 (wk K xA xA).1
     ·split
      ·exact .row _ _
      ·exact ih (λ g' hg'=>O g' (uP _ hg')) x
   show Ob.In _ (aN (f::F) (aL M) x);have hne:¬(fid f.j 0<=x/\x<fid f.j f.n):=λ J=>E ⟨x-fid f.j 0,by simp only[fid]at*;omega,by simp only[fid]at*;omega⟩
   simp only[aN];rw[if_neg I,if_neg hne];refine e F (λ g O=>⟨λ K=>?_,(ha.2.2 g (uP _ O)).2.2⟩) x;have h5:=ha.1;simp only[uS,qI]at h5;exact h5.1 (uR.2 ⟨g,O,K⟩)
 ·obtain⟨g1,g2,g3⟩:=N.stay o b C;exact⟨g1,(hκ o (small o xA)).trans g2,g3⟩
@[go_sem] theorem di {t j i:Nat}(h:t<1125899906842624)(Z:1<=j):(t=fid j i)=False:=by
 simp only[fid,Ah,Dn];omega
@[go_sem] theorem dh {t j i:Nat}(h:t<1125899906842624)(Z:1<=j):(fid j i=t)=False:=by
 simp only[fid,Ah,Dn];omega
@[go_sem] theorem LM {j a b:Nat}:(fid j a=fid j b)=(a=b):=by simp only[fid,Ah];omega
@[go_sem] theorem FV {base:Nat->Ob}:aN [] base=base:=rfl
def Ov :List Fam->(Nat->Ob)->Nat->Ob:=aN
@[go_sem] theorem UG {j o sz n t:Nat}{Z:Nat->List D}{Y:List Fam}{base:Nat->Ob}:
  aN (⟨j,o,sz,n,Z⟩::Y) base t=if t<1125899906842624/\1<=j then(if t=o then .cells (bS n (Fam.ref ⟨j,o,sz,n,Z⟩))else aN Y base t)else Ov (⟨j,o,sz,n,Z⟩::Y) base t:=by
 split
 ·rename_i h;simp only[aN];rw[if_neg (show¬(fid j 0<=t/\t<fid j n) by simp only[fid];omega)]
 ·rfl
@[go_sem high] theorem UF {j o sz n i:Nat}{Z:Nat->List D}{Y:List Fam}{base:Nat->Ob}(h:o<1125899906842624)(U:1<=j)(V:i<n):
  aN (⟨j,o,sz,n,Z⟩::Y) base (fid j i)= .row sz (Z i):=by
 simp only[aN];rw[if_neg (by simp only[fid];omega),if_pos (by simp only[fid];omega)]
 congr 2;simp only[fid];omega
def Ms :Nat->Nat->(Nat->Ob)->Nat->Ob:=lf
@[go_sem] theorem UE {j k t:Nat}{Z:Nat->Ob}:lf j k Z t=if t<1125899906842624/\1<=j then Z t else Ms j k Z t:=by
 split
 ·rename_i h;exact if_neg (by simp only[fid];omega)
 ·rfl
@[go_sem high] theorem UC {j k i:Nat}{Z:Nat->Ob}:lf j k Z (fid j i)=if i=k then .dead else Z (fid j i):=by
 simp only[lf,upd,LM]
theorem rT {M:List (Nat×Ob)}{j i:Nat}(h:(M.all λ q=>decide (q.1<1125899906842624))=true)(U:1<=j):aL M (fid j i)= .dead:=by
 refine pV M _ λ Y=>?_
 obtain⟨q,V,Z⟩:=uR.1 Y;simp only[yF,uG]at h;have:=h q V;rw[Z]at this;simp only[fid]at this;omega
def GZ (n:Nat)(r:Nat->PV)(k:Nat):List PV:=(bS n r).drop (k+1)
@[go_sem high] theorem UJ {n k:Nat}{r:Nat->PV}(h:k<n):(bS n r).drop k=r k::GZ n r k:=by
 rw[GZ,qV (by simpa[bS]using h)]
 congr 1
 simp[bS]
@[go_sem] theorem yi {n:Nat}{r:Nat->PV}:(bS n r).length=n:=by simp[bS]
@[go_sem high] theorem UL {n k:Nat}{r:Nat->PV}{x:PV}(h:k<n):dI (bS n r) k [x]=bS n (upd k x r):=by
 refine yX λ i=>?_
 have V:(bS n r).length=n:=yi;simp only[dI,yO];by_cases Y:i<n
 ·rw[sh Y];rcases zP i k with Z|Z|Z
  ·rw[qG,qZ (by simp;omega),jN Z,sh Y,upd,if_neg xA]
  ·subst Z;have e:(List.take i (bS n r)).length=i:=by rw[yA,V];omega
   rw[qG,qL xA,upd,if_pos rfl,e,jK];rfl
  ·have e:(List.take k (bS n r)++[x]).length=k+1:=by rw[uH,yA,V,yO];omega
   rw[qL xA,gC,upd,if_neg xA,<-sh Y,e]
   congr 1;omega
 ·rw[uL (by simp[V];omega),uL (by rw[yi];omega)]
@[go_sem] theorem UM {n:Nat}{r:Nat->PV}:(bS n r).take n=bS n r:=uE (by rw[yi];exact uI _)
@[go_sem] theorem UK {n:Nat}{r:Nat->PV}{x:PV}:bS n r++[x]=bS (n+1) (upd n x r):=by
 rw[bS,bS,qE,uO]
 congr 1
 ·exact yK λ i h=>by rw[upd,if_neg (by have:=yD.1 h;omega)]
 ·simp[upd]
theorem oR {r:Nat->PV}:bS 1 r=[r 0]:=rfl
attribute [go_sem] Fam.ref kS
theorem xN {ids:List Nat}{f:Fam}{F:List Fam}{base:Nat->Ob}(Y:(decide (f.o<1000)||decide (2000<=f.o)||ids.contains f.o)=true)(U:Nat.ble 1 f.j=true)(h:dT ids (aN F base)):dT ids (aN (f::F) base):=by
 intro o T R V;simp only[gI,uG,yV]at Y;have U:=uQ U
 have Z:o≠f.o:=λ O=>by subst O;rcases Y with(h|h)|h;· omega
                       · omega
                       · exact V h
 simp only[aN];rw[if_neg Z,if_neg (by simp only[fid];omega)];exact h o T R V
theorem xP {ids:List Nat}{base:Nat->Ob}(h:dT ids base):dT ids (aN [] base):=h
theorem xO {ids:List Nat}{objs:Nat->Ob}{j k:Nat}(Z:Nat.ble 1 j=true)(h:dT ids objs):dT ids (lf j k objs):=by
 intro o Y V U;have Z:=uQ Z;rw[lf,upd,if_neg (by simp only[fid];omega)];exact h o Y V U
theorem wl {j i t:Nat}(Z:1<=j)(h:t<1125899906842624):fid j i≠t/\¬(fid j 0<=t/\t<fid j i):=by
 simp only[fid];omega
theorem Me (o sz:Nat)(l:List D)(base:Nat->Ob)(N:o<1125899906842624):∀(F:List Fam),(∀f,f∈F->o≠f.o/\1<=f.j)->∀x,upd o .dead (nc o sz l (aN F base)) x=aN F (upd o .dead (nc o sz l base)) x:=by
 intro F
 induction F with
 |nil=>intro _ x;rw[FV,FV]
 |cons f F R=>
  intro h x;obtain⟨U,O⟩:=h f xB;have M:=R (λ g K=>h g (uP _ K)) x;simp only[aN];by_cases Z:x=o
  ·have T:¬x=f.o:=λ L=>U (Z.symm.trans L)
   rw[if_neg T,if_neg (by rw[Z];exact(wl O N).2),<-M,upd,if_pos Z,upd,if_pos Z]
  ·rw[<-M,upd,if_neg Z,mq,upd,if_neg Z,mq];by_cases Y:x=f.o
   ·rw[if_pos Y,if_pos Y];simp only[Ob.frz,PV.frzL_eq]
    congr 1
    simp only[bS,gU];refine yK λ i _=>?_
    simp only[Function.comp,Fam.ref,PV.frz];rw[if_neg (wl O N).1]
   ·rw[if_neg Y,if_neg Y];by_cases V:fid f.j 0<=x/\x<fid f.j f.n
    ·rw[if_pos V,if_pos V];rfl
    ·rw[if_neg V,if_neg V]
theorem Lu (L:List (Nat×PV))(F:List Fam)(M:List (Nat×Ob))(o sz:Nat)(l:List D)(J:aL M o= .row sz l)(N:(F.all λ f=> !(Nat.beq o f.o)&&Nat.ble 1 f.j)=true)(Y:decide (o<1125899906842624)=true)
  (T:(M.all λ q=>match q.2 with| .gone=>false|_=>true)=true)(U:o<1000\/2000<=o):Ent ⟨cZ L,aN F (aL M)⟩ ⟨wB o sz l (cZ L),aN F (upd o .dead (nc o sz l (aL M)))⟩:=by
 have Y:o<1125899906842624:=Bb Y;have h:∀f,f∈F->o≠f.o/\1<=f.j:=by
  intro f Z;simp only[yF,uN,yL]at N;have O:=N f Z;exact⟨λ V=>by have:=O.1;rw[V]at this;simp at this,uQ O.2⟩
 have K:aN F (aL M) o= .row sz l:=by
  rw[pW λ f Z=>⟨(h f Z).1,λ i _ V=>(wl (h f Z).2 Y).1 V.symm⟩];exact J
 have R:∀(F:List Fam) x,aN F (aL M) x≠ .gone:=by
  intro F
  induction F with
  |nil=>exact fa M T
  |cons g F I=>intro x;simp only[aN];split;· simp
               · split
                 · simp
                 · exact I x
 have:=fo (S:=⟨cZ L,aN F (aL M)⟩) o sz l K (R F) U;rw[show(upd o .dead (nc o sz l (aN F (aL M))):Nat->Ob)=aN F (upd o .dead (nc o sz l (aL M)))from funext (Me o sz l (aL M) Y F h)]at this;exact this
theorem DY {S:St}(o n:Nat)(J:S.objs o= .cells (List.replicate n .nilS)):Ent S ⟨S.env,upd o (.row 1 (List.replicate n (.sl []))) S.objs⟩:=by
 rw[mn];intro B X w0 m a w ι Z;refine⟨ι,Z.size,Z.defers,Z.frame,Z.hB,Z.hXB,λ C A b q f2 z s=>?_,Z.free,Z.env,λ p=>?_,Z.stay⟩
 ·have Y:∀R,upd o (.row 1 (List.replicate n (.sl []))) S.objs R≠ .gone->S.objs R≠ .gone:=by
   intro R H;by_cases I:R=o
   ·rw[I,J];simp
   ·simp only[upd,if_neg I]at H;exact H
  exact Z.inj C A b (Y C q) (Y A f2) z s
 ·by_cases F:p=o
  ·subst F;have E:=Z.objs p;rw[J]at E;simp only[upd,if_true];cases E with
   |cells _ b c T K hb L V h=>
    have U:∀d,d∈List.replicate n (D.sl [])->d= .sl []:=λ d U=>Ag U
    refine .row 1 _ b c T K hb (by rw[yH]at L|-;omega) (λ d h=>by rw[U d h];rfl) V λ i d j e v G M hv=>?_
    have O:=U d (uA G);subst O;have N:i<n:=by
     have:=(uB.1 G).1;simpa using this
    rcases j with _|j
    ·simp only[D.cells,Cc,yM]at M;subst M;have:=h i .nilS v (by rw[gA,if_pos N]) (by simpa using hv);cases this;exact .slnil none 0
    ·simp[D.cells]at M
  ·simp only[upd,if_neg F];exact Z.objs p
theorem Lt {S:St}{L:List (Nat×PV)}{F:List Fam}{M:List (Nat×Ob)}:mR S L F M↔Ent S ⟨cZ L,aN F (aL M)⟩:=Iff.rfl
attribute [irreducible] mR aN fid bS lf
theorem PV.At.rn {w:World}{ι Q:Nat->Option Nat}{X:Nat->Prop}{g:Nat->Nat}(S:∀o b,ι o=some b->Q (g o)=some b)(hX:∀b,ownX Q X b->ownX ι X b){p:PV}{v:Value}(h:PV.At w ι X p v):PV.At w Q X (p.ren g) v:=by
 induction h with
 |d x v h=>simp only[PV.ren];exact .d _ _ (h.sub hX)
 |ref o s J len cap O b R H I G F=>simp only[PV.ren];exact .ref _ s J len cap O b (S o b R) H I G F
 |ref0 o s J Y=>simp only[PV.ren];exact .ref0 _ _ _ Y
 |ptr o s i c b R=>simp only[PV.ren];exact .ptr _ s i c b (S o b R)
 |nilS=>simp only[PV.ren];exact .nilS
 |z0 Y=>simp only[PV.ren];exact .z0 Y
 |ag N arr U M _ K=>
  simp only[PV.ren,PV.renL_eq];refine .ag _ arr (by simpa using U) M λ j p v Z L=>?_
  rw[uJ]at Z;cases V:N[j]? with
  |none=>rw[V]at Z;cases Z
  |some q=>rw[V]at Z;cases Z;exact K j q v V L
 |tup N arr U _ K=>
  simp only[PV.ren,PV.renL_eq];refine .tup _ arr (by simpa using U) λ j p v Z L=>?_
  rw[uJ]at Z;cases V:N[j]? with
  |none=>rw[V]at Z;cases Z
  |some q=>rw[V]at Z;cases Z;exact K j q v V L
 |fn f N arr U _ K=>
  simp only[PV.ren,PV.renL_eq];refine .fn f _ arr (by simpa using U) λ j p v Z L=>?_
  rw[uJ]at Z;cases V:N[j]? with
  |none=>rw[V]at Z;cases Z
  |some q=>rw[V]at Z;cases Z;exact K j q v V L
 |unk v=>simp only[PV.ren];exact .unk v
 |und=>simp only[PV.ren];exact .und
 |ab b=>simp only[PV.ren];exact .ab b
 |mp o b R=>simp only[PV.ren];exact .mp _ b (S o b R)
 |ifp T o b R=>simp only[PV.ren];exact .ifp T _ b (S o b R)
theorem Ob.At.rn {w:World}{ι V:Nat->Option Nat}{X:Nat->Prop}{g:Nat->Nat}(N:∀o b,ι o=some b->V (g o)=some b)(hX:∀b,ownX V X b->ownX ι X b){o J:Nat}(O:V J=ι o){H:Ob}(h:Ob.At w ι X o H):Ob.At w V X J (H.ren g):=by
 cases h with
 |dead h=>simp only[Ob.ren];exact .dead (O.trans h)
 |gone=>simp only[Ob.ren];exact .gone
 |cells G b c T S Z Q Y U=>
  simp only[Ob.ren];refine .cells _ b c T (O.trans S) Z (by simpa using Q) Y λ j p v R K=>?_
  rw[uJ]at R;cases L:G[j]? with
  |none=>rw[L]at R;cases R
  |some q=>rw[L]at R;cases R;exact(U j q v L K).rn N hX
 |row0 s h=>simp only[Ob.ren];exact .row0 s (O.trans h)
 |row s l b c T S Z Q M Y U=>simp only[Ob.ren];exact Ob.At.row (o:=J) (X:=X) s l b c T (O.trans S) Z Q M Y λ i d j e v C R K=>(U i d j e v C R K).sub hX
 |imap l b F clock S Z E=>simp only[Ob.ren];exact .imap l b F clock (O.trans S) Z E
 |iter m k A b I S B Z=>simp only[Ob.ren];exact .iter _ k A b I (O.trans S) (N m I B) Z
def mvG (o Z:Nat)(x:Nat):Nat:=if x=o then Z else x
theorem pF {S:St}(o Z:Nat)(h2:S.objs Z= .dead)(hne:o≠Z)(F:Z<1000\/2000<=Z):
  Ent S ⟨λ t=>(S.env t).ren (mvG o Z),λ x=>if x=o then .gone else if x=Z then(S.objs o).ren (mvG o Z)else(S.objs x).ren (mvG o Z)⟩:=by
 rw[mn];intro B X w0 m a w M Y;have hd:M Z=none:=Y.dead h2
 let T:Nat->Option Nat:=λ x=>if x=Z then M o else M x
 have Q:∀x,x≠Z->T x=M x:=λ x V=>if_neg V
 have L:T Z=M o:=if_pos rfl;have N:∀x b,M x=some b->T (mvG o Z x)=some b:=λ x b U=>by
  by_cases c:x=o
  ·subst c;rw[mvG,if_pos rfl,L];exact U
  ·rw[mvG,if_neg c,Q x (λ h=>by rw[h,hd]at U;cases U)];exact U
 have hX:∀b,ownX T X b->ownX M X b:=by
  rintro b (U|⟨x,U⟩)
  ·exact .inl U
  ·by_cases c:x=Z
   ·rw[c,L]at U;exact .inr ⟨o,U⟩
   ·rw[Q x c]at U;exact .inr ⟨x,U⟩
 have O:∀x,(if x=o then Ob.gone else if x=Z then(S.objs o).ren (mvG o Z)else(S.objs x).ren (mvG o Z))≠ .gone->(x=Z/\S.objs o≠ .gone)\/(x≠Z/\x≠o/\S.objs x≠ .gone):=by
  intro x V;by_cases c:x=o
  ·rw[if_pos c]at V;exact absurd rfl V
  ·rw[if_neg c]at V;by_cases R:x=Z
   ·rw[if_pos R]at V;exact .inl ⟨R,λ h=>V (by rw[h];rfl)⟩
   ·rw[if_neg R]at V;exact .inr ⟨R,c,λ h=>V (by rw[h];rfl)⟩
 refine⟨T,Y.size,Y.defers,Y.frame,Y.hB,Y.hXB,λ x y b A z K J=>?_,λ x b e=>?_,λ t=>(Y.env t).rn N hX,λ x=>?_,λ x b U=>?_⟩
 ·rcases O x A with⟨rfl,V⟩|⟨I,E,V⟩<;>rcases O y z with⟨rfl,G⟩|⟨H,C,G⟩
  ·rfl
  ·rw[L]at K;rw[Q y H]at J;exact absurd (Y.inj o y b V G K J).symm C
  ·rw[L]at J;rw[Q x I]at K;exact absurd (Y.inj x o b V G K J) E
  ·rw[Q x I]at K;rw[Q y H]at J;exact Y.inj x y b V G K J
 ·by_cases c:x=Z
  ·rw[c,L]at e;exact Y.free o b e
  ·rw[Q x c]at e;exact Y.free x b e
 ·show Ob.At w T X x (if x=o then Ob.gone else if x=Z then(S.objs o).ren (mvG o Z)else(S.objs x).ren (mvG o Z));by_cases c:x=o
  ·rw[if_pos c];exact .gone
  ·rw[if_neg c];by_cases R:x=Z
   ·rw[if_pos R,R];exact(Y.objs o).rn N hX L
   ·rw[if_neg R];exact(Y.objs x).rn N hX (Q x R)
 ·obtain⟨s,q,g3⟩:=Y.stay x b U;exact⟨s,(Q x xA).trans q,g3⟩
attribute [go_sem] mvG
theorem PJ {P:Program}{B X:Nat->Prop}{Z:W0}{n:Nat}{c:Code}{Q:Exit->St->Prop}{S:St}:
  PW P B X Z n c Q S↔∀a w ι,Hold B X (Z.of P) n S a w ι->c.wp P (λ e U w'=>∃V Y,Q e V/\Hold B X (Z.of P) n V U w' Y) a w:=by
 delta PW;exact Iff.rfl
theorem xY {P:Program}{B X:Nat->Prop}{U:W0}{n:Nat}{Q:Exit->St->Prop}{S:St}{id:Nat}(k:Nat)(_hid:Nat.blt id k=true)(own:Nat->Bool)(ck:P.follows .mixedOrders=true){ops:Array Oper}{Z:Bool}
  (h:ao P own ops.toList ops.toList S [] λ Y V=>oL n ops Z V.reverse=true/\Q .normal Y):PW P B X U n (.region id ops Z) Q S:=dA own ck h
theorem fc {P:Program}{B X:Nat->Prop}{Y:W0}{n:Nat}{c:Code}{Q:Exit->St->Prop}{S:St}
  (h:PW P B X Y n c (λ e U=>∃S'',Ent U S''/\Q e S'') S):PW P B X Y n c Q S:=by
 rw[PJ]at h|-;intro a w J M;refine wp_mono (h a w J M) ?_;rintro e R K ⟨U,V,⟨S'',T,L⟩,O⟩;rw[mn]at T;obtain⟨Z,N⟩:=T B X (Y.of P) n R K V O;exact⟨S'',Z,L,N⟩
theorem cI {S:St}{L:List (Nat×PV)}{M:List (Nat×Ob)}:mS S L M↔Ent S ⟨cZ L,aL M⟩:=by
 delta mS;exact Iff.rfl
theorem tm {S:St}(o sz:Nat)(l:List D)(k:Nat)(N:S.objs o= .row sz l):Ent S ⟨S.env,upd o (.row sz (l.take k)) S.objs⟩:=by
 rw[mn];intro B X s m a w z Z;refine⟨z,Z.size,Z.defers,Z.frame,Z.hB,Z.hXB,λ x y b H G J I=>?_,Z.free,Z.env,λ q=>?_,Z.stay⟩
 ·have Y:∀x,upd o (.row sz (l.take k)) S.objs x≠ .gone->S.objs x≠ .gone:=by
   intro x K;by_cases M:x=o
   ·rw[M,N];simp
   ·simp only[upd,if_neg M]at K;exact K
  exact Z.inj x y b (Y x H) (Y y G) J I
 ·by_cases L:q=o
  ·subst L;simp only[upd,if_true];have:=Z.objs q;rw[N]at this;cases this with
   |row0 _ h=>rw[List.take_nil];exact .row0 _ h
   |row _ _ b c T O F Q R V h=>
    refine .row _ _ b c T O F ?_ (λ d E=>R d (gT E)) V λ i d j e v U C A=>?_
    ·refine gY (yR _ ?_) Q;rw[yA];exact Nat.min_le_right _ _
    ·rw[qS]at U;split at U
     ·exact h i d j e v U C A
     ·cases U
  ·simp only[upd,if_neg L];exact Z.objs q
theorem PV.At.cap {w:World}{ι:Nat->Option Nat}{X:Nat->Prop}{o sz off len cap Z:Nat}{v:Value}(h:PV.At w ι X (.ref o sz off len cap) v)(S:Z<=cap):PV.At w ι X (.ref o sz off len Z) v:=by
 cases h with
 |ref _ _ _ _ _ V b T R U Q O=>exact .ref o sz off len Z V b T R (gY S U) Q O
 |ref0 _ _ _ Y=>rw[Nat.le_zero.1 S];exact .ref0 o sz off Y
theorem tl {S:St}(q i o sz off len cap Z:Nat){cs:List PV}(L:S.objs q= .cells cs)(A:cs[i]? =some (.ref o sz off len cap))(R:Z<=cap):
  Ent S ⟨S.env,upd q (.cells (cs.set i (.ref o sz off len Z))) S.objs⟩:=by
 rw[mn];intro B X s m a w z Y;refine⟨z,Y.size,Y.defers,Y.frame,Y.hB,Y.hXB,λ x y b F E H G=>?_,Y.free,Y.env,λ p=>?_,Y.stay⟩
 ·have U:∀x,upd q (.cells (cs.set i (.ref o sz off len Z))) S.objs x≠ .gone->S.objs x≠ .gone:=by
   intro x V;by_cases K:x=q
   ·rw[K,L];simp
   ·simp only[upd,if_neg K]at V;exact V
  exact Y.inj x y b (U x F) (U y E) H G
 ·by_cases J:p=q
  ·subst J;simp only[upd,if_true];have:=Y.objs p;rw[L]at this;cases this with
   |cells _ b c T M C N Q h=>
    refine .cells _ b c T M C (by simpa using N) Q λ j x v V I=>?_
    rw[qF]at V;split at V
    ·rename_i O;subst O;split at V
     ·cases V;exact(h i _ v A I).cap R
     ·cases V
    ·exact h j x v V I
  ·simp only[upd,if_neg J];exact Y.objs p
theorem Lx {S:St}(o:Nat):Ent S ⟨S.env,upd o .gone S.objs⟩:=by
 rw[mn];intro B X M m a w N h;refine⟨N,h.size,h.defers,h.frame,h.hB,h.hXB,λ x y b Q O T R=>?_,h.free,h.env,λ p=>?_,h.stay⟩
 ·have Z:∀x,upd o .gone S.objs x≠ .gone->S.objs x≠ .gone:=by
   intro x Y;by_cases V:x=o
   ·rw[V]at Y;simp[upd]at Y
   ·simp only[upd,if_neg V]at Y;exact Y
  exact h.inj x y b (Z x Q) (Z y O) T R
 ·by_cases U:p=o
  ·subst U;simp only[upd,if_true];exact .gone
  ·simp only[upd,if_neg U];exact h.objs p
end Go.PS
