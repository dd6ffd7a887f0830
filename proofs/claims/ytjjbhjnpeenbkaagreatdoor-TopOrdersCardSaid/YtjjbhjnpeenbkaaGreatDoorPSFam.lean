/- Own rows of own rows: a family of objects Zb1 numbers of its own. -/
import Derived.Test.YtjjbhjnpeenbkaaGreatDoorPSCode
set_option linter.unusedSimpArgs false
set_option linter.unusedVariables false
set_option maxHeartbeats 16000000
namespace Go.PS
open Go
def fid (j i:Nat):Nat:=1125899906842624*j+i
structure Fam where
 j:Nat
 o:Nat
 sz:Nat
 n:Nat
 rows:Nat->List D
def ZaR (n:Nat)(r:Nat->PV):List PV:=(List.range n).map r
def Fam.ref (f:Fam)(i:Nat):PV:= .ref (fid f.j i) f.sz 0 (f.rows i).length (f.rows i).length
def Zap :List Fam->(Nat->Ob)->Nat->Ob
 |[],base=>base
 |f::fs,base=>λ x=>if x=f.o then .cells (ZaR f.n f.ref)else if fid f.j 0<=x/\x<fid f.j f.n then .row f.sz (f.rows (x-fid f.j 0))else Zap fs base x
theorem ZiM {n:Nat}{r:Nat->PV}{i:Nat}(h:i<n):(ZaR n r)[i]? =some (r i):=by simp[ZaR,h]
theorem ZwV {n:Nat}{r:Nat->PV}{i:Nat}{p:PV}(h:(ZaR n r)[i]? =some p):i<n/\p=r i:=by
 by_cases hi:i<n
 ·rw[ZiM hi]at h;cases h;exact⟨hi,rfl⟩
 ·rw[uP (by simp[ZaR];omega)]at h;cases h
inductive PV.In (dom:Nat->Prop):PV->Prop
 |d (x:D):PV.In dom (.d x)
 |ref (o sz off len cap:Nat) (h:dom o):PV.In dom (.ref o sz off len cap)
 |ptr (o sz i c:Nat) (h:dom o):PV.In dom (.ptr o sz i c)
 |nilS:PV.In dom .nilS
 |z0:PV.In dom .z0
 |ag (cs:List PV) (h:∀c,c∈cs->PV.In dom c):PV.In dom (.ag cs)
 |tup (cs:List PV) (h:∀c,c∈cs->PV.In dom c):PV.In dom (.tup cs)
 |fn (f:FuncId) (cs:List PV) (h:∀c,c∈cs->PV.In dom c):PV.In dom (.fn f cs)
 |unk:PV.In dom .unk
 |und:PV.In dom .und
 |ab:PV.In dom .ab
 |mp (o:Nat) (h:dom o):PV.In dom (.mp o)
 |ifp (T o:Nat) (h:dom o):PV.In dom (.ifp T o)
inductive Ob.In (dom:Nat->Prop):Ob->Prop
 |dead:Ob.In dom .dead
 |gone:Ob.In dom .gone
 |row (sz:Nat) (l:List D):Ob.In dom (.row sz l)
 |imap (l:List (Int×Int)):Ob.In dom (.imap l)
 |iter (m k:Nat) (sn:List Nat) (h:dom m):Ob.In dom (.iter m k sn)
 |cells (cs:List PV) (h:∀c,c∈cs->PV.In dom c):Ob.In dom (.cells cs)
theorem PV.In.mono {dom dom':Nat->Prop}{p:PV}(h:PV.In dom p)(hd:∀o,dom o->dom' o):PV.In dom' p:=by
 induction h with
 |d x=>exact .d x
 |ref o sz off len cap h=>exact .ref _ _ _ _ _ (hd o h)
 |ptr o sz i c h=>exact .ptr _ _ _ _ (hd o h)
 |nilS=>exact .nilS
 |z0=>exact .z0
 |ag cs _ ih=>exact .ag cs ih
 |tup cs _ ih=>exact .tup cs ih
 |fn f cs _ ih=>exact .fn f cs ih
 |unk=>exact .unk
 |und=>exact .und
 |ab=>exact .ab
 |mp o h=>exact .mp o (hd o h)
 |ifp T o h=>exact .ifp T o (hd o h)
theorem Ob.In.mono {dom dom':Nat->Prop}{p:Ob}(h:Ob.In dom p)(hd:∀o,dom o->dom' o):Ob.In dom' p:=by
 cases h with
 |dead=>exact .dead
 |gone=>exact .gone
 |row sz l=>exact .row sz l
 |imap l=>exact .imap l
 |iter m k sn h=>exact .iter m k sn (hd m h)
 |cells cs h=>exact .cells cs λ c hc=>(h c hc).mono hd
theorem ZjR {L:List Nat}:∀(k:Nat) (p:PV),p.only L k=true->PV.In (·∈L) p:=by
 intro k
 induction k with
 |zero=>intro p h;simp[PV.only]at h
 |succ k ih=>
  intro p h;cases p with
  |d x=>exact .d x
  |ref o sz off len cap=>simp only[PV.only,yJ,uG]at h;exact .ref _ _ _ _ _ h
  |ptr o sz i c=>simp only[PV.only,yJ,uG]at h;exact .ptr _ _ _ _ h
  |nilS=>exact .nilS
  |z0=>exact .z0
  |unk=>exact .unk
  |und=>exact .und
  |ab=>exact .ab
  |mp o=>simp only[PV.only,yJ,uG]at h;exact .mp _ h
  |ifp T o=>simp only[PV.only,yJ,uG]at h;exact .ifp _ _ h
  |ag cs=>simp only[PV.only,uW]at h;exact .ag cs λ c hc=>ih c (h c hc)
  |tup cs=>simp only[PV.only,uW]at h;exact .tup cs λ c hc=>ih c (h c hc)
  |fn f cs=>simp only[PV.only,uW]at h;exact .fn f cs λ c hc=>ih c (h c hc)
theorem ZlU {L:List Nat}{ob:Ob}(h:ob.only L=true):Ob.In (·∈L) ob:=by
 cases ob with
 |dead=>exact .dead
 |gone=>exact .gone
 |row sz l=>exact .row sz l
 |imap l=>exact .imap l
 |iter m k sn=>simp only[Ob.only,yJ,uG]at h;exact .iter m k sn h
 |cells cs=>simp only[Ob.only,uW]at h;exact .cells cs λ c hc=>ZjR 4 c (h c hc)
theorem Zqi {dom:Nat->Prop}{g g':Nat->Nat}{p:PV}(h:PV.In dom p)(hg:∀o,dom o->g o=g' o):p.ren g=p.ren g':=by
 induction h with
 |ref o sz off len cap h=>simp only[PV.ren,hg o h]
 |ptr o sz i c h=>simp only[PV.ren,hg o h]
 |mp o h=>simp only[PV.ren,hg o h]
 |ifp T o h=>simp only[PV.ren,hg o h]
 |ag cs _ ih=>simp only[PV.ren,PV.renL_eq];rw[yE ih]
 |tup cs _ ih=>simp only[PV.ren,PV.renL_eq];rw[yE ih]
 |fn f cs _ ih=>simp only[PV.ren,PV.renL_eq];rw[yE ih]
 |_=>simp only[PV.ren]
theorem Zw4 {dom:Nat->Prop}{g g':Nat->Nat}{p:Ob}(h:Ob.In dom p)(hg:∀o,dom o->g o=g' o):p.ren g=p.ren g':=by
 cases h with
 |cells cs h=>simp only[Ob.ren];rw[yE λ c hc=>Zqi (h c hc) hg]
 |iter m k sn h=>simp only[Ob.ren,hg m h]
 |_=>simp only[Ob.ren]
theorem Zj3 {dom:Nat->Prop}{g:Nat->Nat}{p:PV}(h:PV.In dom p)(hg:∀o,dom o->g o=o):p.ren g=p:=by
 induction h with
 |ref o sz off len cap h=>simp only[PV.ren,hg o h]
 |ptr o sz i c h=>simp only[PV.ren,hg o h]
 |mp o h=>simp only[PV.ren,hg o h]
 |ifp T o h=>simp only[PV.ren,hg o h]
 |ag cs _ ih=>simp only[PV.ren,PV.renL_eq];rw[yE ih,List.map_id']
 |tup cs _ ih=>simp only[PV.ren,PV.renL_eq];rw[yE ih,List.map_id']
 |fn f cs _ ih=>simp only[PV.ren,PV.renL_eq];rw[yE ih,List.map_id']
 |_=>simp only[PV.ren]
theorem Zqg {dom:Nat->Prop}{g:Nat->Nat}{p:Ob}(h:Ob.In dom p)(hg:∀o,dom o->g o=o):p.ren g=p:=by
 cases h with
 |cells cs h=>simp only[Ob.ren];rw[yE λ c hc=>Zj3 (h c hc) hg,List.map_id']
 |iter m k sn h=>simp only[Ob.ren,hg m h]
 |_=>simp only[Ob.ren]
theorem Zkr {w:World}{ι ιc:Nat->Option Nat}{X:Nat->Prop}{g:Nat->Nat}{dom:Nat->Prop}(hι:∀i,dom i->ιc i=ι (g i))(hX:∀b,ownX ιc X b->ownX ι X b){p:PV}(h:PV.In dom p):
  ∀v,PV.At w ι X (p.ren g) v->PV.At w ιc X p v:=by
 induction h with
 |d x=>intro v hp;simp only[PV.ren]at hp;cases hp with|d _ _ h=>exact .d _ _ (h.sub hX)
 |ref o sz off len cap h=>
  intro v hp;simp only[PV.ren]at hp;cases hp with
  |ref _ _ _ _ _ capr b hb hl hc hm hs=>exact .ref o sz off len cap capr b ((hι o h).trans hb) hl hc hm hs
  |ref0 _ _ _ base=>exact .ref0 _ _ _ base
 |ptr o sz i c h=>intro v hp;simp only[PV.ren]at hp;cases hp with|ptr _ _ _ _ b hb=>exact .ptr o sz i c b ((hι o h).trans hb)
 |nilS=>intro v hp;simp only[PV.ren]at hp;cases hp;exact .nilS
 |z0=>intro v hp;simp only[PV.ren]at hp;cases hp;exact .z0 _
 |unk=>intro v _;exact .unk _
 |und=>intro v hp;simp only[PV.ren]at hp;cases hp;exact .und
 |ab=>intro v hp;simp only[PV.ren]at hp;cases hp;exact .ab _
 |mp o h=>intro v hp;simp only[PV.ren]at hp;cases hp with|mp _ b hb=>exact .mp o b ((hι o h).trans hb)
 |ifp T o h=>intro v hp;simp only[PV.ren]at hp;cases hp with|ifp _ _ b hb=>exact .ifp T o b ((hι o h).trans hb)
 |ag cs _ ih=>
  intro v hp;simp only[PV.ren,PV.renL_eq]at hp;cases hp with|ag _ arr hsz hone hat=>exact .ag cs arr (by simpa using hsz) hone λ j p v hj hv=>ih p (uA hj) v (hat j _ v (by rw[uI,hj];rfl) hv)
 |tup cs _ ih=>
  intro v hp;simp only[PV.ren,PV.renL_eq]at hp;cases hp with|tup _ arr hsz hat=>exact .tup cs arr (by simpa using hsz) λ j p v hj hv=>ih p (uA hj) v (hat j _ v (by rw[uI,hj];rfl) hv)
 |fn f cs _ ih=>
  intro v hp;simp only[PV.ren,PV.renL_eq]at hp;cases hp with|fn _ _ arr hsz hat=>exact .fn f cs arr (by simpa using hsz) λ j p v hj hv=>ih p (uA hj) v (hat j _ v (by rw[uI,hj];rfl) hv)
theorem Zm1 {w:World}{ι ιc:Nat->Option Nat}{X:Nat->Prop}{g:Nat->Nat}{dom:Nat->Prop}(hι:∀i,dom i->ιc i=ι (g i))(hX:∀b,ownX ιc X b->ownX ι X b){o:Nat}{ob:Ob}(ho:dom o)(h:Ob.In dom ob)
  (hp:Ob.At w ι X (g o) (ob.ren g)):Ob.At w ιc X o ob:=by
 cases h with
 |gone=>exact .gone
 |dead=>simp only[Ob.ren]at hp;cases hp with|dead h=>exact .dead ((hι o ho).trans h)
 |cells cs h=>
  simp only[Ob.ren]at hp;cases hp with
  |cells _ b c T hb hbb hsz hone hat=>
   exact .cells cs b c T ((hι o ho).trans hb) hbb (by simpa using hsz) hone λ j p v hj hv=>Zkr hι hX (h p (uA hj)) v (hat j _ v (by rw[uI,hj];rfl) hv)
 |row sz l=>
  simp only[Ob.ren]at hp;cases hp with
  |row0 _ h=>exact .row0 sz ((hι o ho).trans h)
  |row _ _ b c T hb hbb hsz hcl hone hat=>exact .row sz l b c T ((hι o ho).trans hb) hbb hsz hcl hone λ i d j e v hi hj hv=>(hat i d j e v hi hj hv).sub hX
 |imap l=>
  simp only[Ob.ren]at hp;cases hp with
  |imap _ b es clock hb hbb he=>exact .imap l b es clock ((hι o ho).trans hb) hbb he
 |iter m k sn hm0=>
  simp only[Ob.ren]at hp;cases hp with
  |iter _ _ _ b bm hb hm hbb=>exact .iter m k sn b bm ((hι o ho).trans hb) ((hι m hm0).trans hm) hbb
theorem Zoe {S S':St}(g:Nat->Nat)(dom:Nat->Prop)(h1:∀t,S'.env t= .unk\/(S.env t=(S'.env t).ren g/\(S'.env t).In dom))(h2:∀o,dom o->S.objs (g o)=(S'.objs o).ren g/\(S'.objs o).In dom)
  (h3:∀o,¬dom o->S'.objs o= .dead)(h5:∀i,dom i->∀j,dom j->g i=g j->i=j)(h6:∀o,dom o->((o<1000\/2000<=o)/\(g o<1000\/2000<=g o))\/g o=o)
  (h7:∀o,1000<=o->o<2000->¬dom o->S.objs o= .dead):Ent S S':=by
 rw[ZfN];intro B X w0 n a w ι hS;have dec:=λ o=>Classical.propDecidable (dom o)
 let ι':Nat->Option Nat:=λ o=>if dom o then ι (g o)else none
 have hκ:∀o,dom o->ι' o=ι (g o):=λ o ho=>if_pos ho
 have sub:∀o b,ι' o=some b->dom o/\ι (g o)=some b:=by
  intro o b h;by_cases ho:dom o
  ·rw[hκ o ho]at h;exact⟨ho,h⟩
  ·simp only[ι',if_neg ho]at h;cases h
 have subX:∀b,ownX ι' X b->ownX ι X b:=by
  rintro b (hb|⟨o,hb⟩)
  ·exact .inl hb
  ·exact .inr ⟨_,(sub o b hb).2⟩
 have live:∀o,dom o->S'.objs o≠ .gone->S.objs (g o)≠ .gone:=by
  intro o ho hg;rw[(h2 o ho).1];exact λ he=>hg (ZiN.1 he)
 refine⟨ι',hS.size,hS.defers,hS.frame,hS.hB,hS.hXB,λ o o' b f f' e e'=>?_,λ o b e=>hS.free _ b (sub o b e).2,λ t=>?_,λ o=>?_,λ o b hb=>?_⟩
 ·obtain⟨g1,g2⟩:=sub o b e;obtain⟨g3,g4⟩:=sub o' b e';exact h5 o g1 o' g3 (hS.inj _ _ b (live o g1 f) (live o' g3 f') g2 g4)
 ·rcases h1 t with h|⟨h,hin⟩
  ·rw[h];exact .unk _
  ·have:=hS.env t;rw[h]at this;exact Zkr hκ subX hin _ this
 ·by_cases ho:dom o
  ·have hh:=hS.objs (g o);rw[(h2 o ho).1]at hh;exact Zm1 hκ subX ho (h2 o ho).2 hh
  ·rw[h3 o ho];exact .dead (if_neg ho)
 ·obtain⟨g1,g2,g3⟩:=hS.stay o b hb;refine⟨g1,?_,g3⟩;by_cases ho:dom o
  ·rw[hκ o ho];rcases h6 o ho with h|h
   ·omega
   ·rw[h];exact g2
  ·have:=hS.dead (h7 o g1.1 g1.2 ho);rw[this]at g2;cases g2
theorem Zjy (σ:List (Nat×Nat))(x:Nat):gOf σ x=x\/∃p,p∈σ/\p.1=x/\gOf σ x=p.2:=by
 induction σ with
 |nil=>exact .inl rfl
 |cons p σ ih=>
  obtain⟨a,b⟩:=p;by_cases h:x=a
  ·subst h;exact .inr ⟨(x,b),by simp,rfl,if_pos rfl⟩
  ·have he:gOf ((a,b)::σ) x=gOf σ x:=if_neg h;rcases ih with h1|⟨p,h1,h2,h3⟩
   ·exact .inl (he.trans h1)
   ·exact .inr ⟨p,uM _ h1,h2,he.trans h3⟩
def Zgp (Fs:List Fam):Prop:=(Fs.map (·.j)).Nodup/\(Fs.map (·.o)).Nodup/\∀f,f∈Fs->1<=f.j/\f.o<1125899906842624/\f.n<=1125899906842624
theorem Zgp.tail {f:Fam}{Fs:List Fam}(h:Zgp (f::Fs)):Zgp Fs:=by
 obtain⟨h1,h2,h3⟩:=h;simp only[uX,yS]at h1 h2;exact⟨h1.2,h2.2,λ g hg=>h3 g (uM _ hg)⟩
theorem Zlc {j j' i i':Nat}(h:fid j i=fid j' i')(h1:i<1125899906842624)(h2:i'<1125899906842624):j=j'/\i=i':=by
 simp only[fid]at h;omega
theorem ZlQ {base:Nat->Ob}:∀{Fs:List Fam} {f:Fam},Zgp Fs->f∈Fs->Zap Fs base f.o= .cells (ZaR f.n f.ref)
 |[],f,_,h=>by cases h
 |g::Fs,f,ha,h=>by
  simp only[Zap];rcases yH.1 h with rfl|h'
  ·rw[if_pos rfl]
  ·have hne:f.o≠g.o:=by
    intro he;have:=ha.2.1;simp only[uX,yS]at this;exact this.1 (uN.2 ⟨f,h',he⟩)
   have h1:=ha.2.2 f h;have h2:=ha.2.2 g (by simp);rw[if_neg hne,if_neg (by simp only[fid];omega)];exact ZlQ ha.tail h'
theorem ZlP {base:Nat->Ob}:∀{Fs:List Fam} {f:Fam} {i:Nat},Zgp Fs->f∈Fs->i<f.n->Zap Fs base (fid f.j i)= .row f.sz (f.rows i)
 |[],f,_,_,h,_=>by cases h
 |g::Fs,f,i,ha,h,hi=>by
  simp only[Zap];have h1:=ha.2.2 f h;have h2:=ha.2.2 g (by simp);rw[if_neg (by simp only[fid];omega)];rcases yH.1 h with rfl|h'
  ·rw[if_pos (by simp only[fid];omega)]
   congr 2;simp only[fid];omega
  ·have hne:f.j≠g.j:=by
    intro he;have:=ha.1;simp only[uX,yS]at this;exact this.1 (uN.2 ⟨f,h',he⟩)
   rw[if_neg (by simp only[fid];omega)];exact ZlP ha.tail h' hi
theorem Zhw {base:Nat->Ob}:∀{Fs:List Fam} {x:Nat},(∀f,f∈Fs->x≠f.o/\∀i,i<f.n->x≠fid f.j i)->Zap Fs base x=base x
 |[],_,_=>rfl
 |g::Fs,x,h=>by
  simp only[Zap];have h1:=h g (by simp);rw[if_neg h1.1,if_neg (λ hx=>h1.2 (x-fid g.j 0) (by simp only[fid]at*;omega) (by simp only[fid]at*;omega))];exact Zhw λ f hf=>h f (uM _ hf)
def ZfD (S:St)(L:List (Nat×PV))(Fs:List Fam)(M:List (Nat×Ob)):Prop:=Ent S ⟨Zbh L,Zap Fs (Zam M)⟩
theorem Zk9 {S:St}(σf σ:List (Nat×Nat))(L:List (Nat×PV))(Fs:List Fam)(M:List (Nat×Ob))
  (hL:∀p∈L,S.env p.1=p.2.ren (gOf σ))(hM:∀q∈M,S.objs (gOf σ q.1)=q.2.ren (gOf σ))
  (hF:∀f∈Fs,∃r,S.objs (gOf σ f.o)= .cells (ZaR f.n r)/\∀i,i<f.n->r i= .ref (gOf σf (fid f.j i)) f.sz 0 (f.rows i).length (f.rows i).length/\S.objs (gOf σf (fid f.j i))= .row f.sz (f.rows i))
  (hn:∀f∈Fs,1<=f.j/\f.o<1125899906842624/\f.n<=1125899906842624)
  (c1:(L.all λ p=>p.2.only (Fs.map (·.o)++M.map (·.1)) 4)=true)(c2:(M.all λ q=>q.2.only (Fs.map (·.o)++M.map (·.1)))=true)
  (c3:((Fs.map (·.o)++M.map (·.1)).map (gOf σ)++σf.map (·.2)).Nodup)(c4:(Fs.map (·.j)).Nodup)
  (c5:((Fs.map (·.o)++M.map (·.1)).all λ i=>(((decide (i<1000)||decide (2000<=i))&&(decide (gOf σ i<1000)||decide (2000<=gOf σ i)))||decide (gOf σ i=i))&&decide (i<1125899906842624)&&decide (gOf σ i<1125899906842624))=true)
  (c6:(σf.all λ p=>(decide (p.2<1000)||decide (2000<=p.2))&&decide (p.2<1125899906842624))=true)
  (c7:ZbJ (Fs.map (·.o)++M.map (·.1)) S.objs):ZfD S L Fs M:=by
 generalize hids:Fs.map (·.o)++M.map (·.1)=ids at*;simp only[uW,uO,qY,uG]at c1 c2 c5 c6;have hpair:=yX.1 c3;have hinj0:∀i∈ids,∀j∈ids,gOf σ i=gOf σ j->i=j:=by
  have key:∀(l:List Nat),(l.map (gOf σ)).Nodup->∀i∈l,∀j∈l,gOf σ i=gOf σ j->i=j:=by
   intro l
   induction l with
   |nil=>intro _ i hi;cases hi
   |cons a l ih=>
    intro hn i hi j hj he;simp only[uX,yS]at hn;rcases yH.1 hi with hi'|hi'<;>rcases yH.1 hj with hj'|hj'
    ·rw[hi',hj']
    ·exact absurd (uN.2 ⟨j,hj',by rw[<-he,hi']⟩) hn.1
    ·exact absurd (uN.2 ⟨i,hi',by rw[he,hj']⟩) hn.1
    ·exact ih hn.2 i hi' j hj' he
  exact key ids hpair.1
 have hidn:ids.Nodup:=by
  have:∀(l:List Nat),(l.map (gOf σ)).Nodup->l.Nodup:=by
   intro l
   induction l with
   |nil=>intro _;exact Av
   |cons a l ih=>
    intro hn;simp only[uX,yS]at hn;exact yS.2 ⟨λ hm=>hn.1 (uN.2 ⟨a,hm,rfl⟩),ih hn.2⟩
  exact this ids hpair.1
 have hsp:=yX.1 (show(Fs.map (·.o)++M.map (·.1)).Nodup by rw[hids];exact hidn);have ha:Zgp Fs:=⟨c4,hsp.1,hn⟩;have hMn:(M.map (·.1)).Nodup:=hsp.2.1;have hlt:∀i∈ids,i<1125899906842624:=λ i hi=>(c5 i hi).1.2
 have hge:∀f∈Fs,∀i,1125899906842624<=fid f.j i:=λ f hf i=>by
  have:=(hn f hf).1;simp only[fid];omega
 have hobo:∀f∈Fs,Zap Fs (Zam M) f.o= .cells (ZaR f.n f.ref):=λ f hf=>ZlQ ha hf
 have hobM:∀q∈M,Zap Fs (Zam M) q.1=q.2:=by
  intro q hq;rw[Zhw λ f hf=>⟨λ he=>?_,λ i hi he=>?_⟩]
  ·exact ZgR M hMn q hq
  ·exact hsp.2.2 f.o (uN.2 ⟨f,hf,rfl⟩) q.1 (uN.2 ⟨q,hq,rfl⟩) he.symm
  ·have:=hlt q.1 (by rw[<-hids];exact Ba _ (uN.2 ⟨q,hq,rfl⟩));have:=hge f hf i;omega
 refine Zoe (λ x=>if x<1125899906842624 then gOf σ x else gOf σf x) (λ x=>x∈ids\/∃f∈Fs,∃i,i<f.n/\x=fid f.j i) (λ t=>?_) (λ o ho=>?_) (λ o ho=>?_) (λ x hx y hy he=>?_) (λ o ho=>?_) (λ o h1 h2 ho=>?_)
 ·show Zbh L t= .unk\/_;rcases Zju L t with h|⟨p,hp,h⟩
  ·exact .inl h
  ·right
   have hin:=ZjR 4 _ (c1 (t,p) hp);have e:(⟨Zbh L,Zap Fs (Zam M)⟩:St).env t=p:=h;rw[e];refine⟨(hL (t,p) hp).trans (Zqi hin λ o ho=>?_),hin.mono λ o ho=> .inl ho⟩;rw[if_pos (hlt o ho)]
 ·show S.objs _=(Zap Fs (Zam M) o).ren _/\(Zap Fs (Zam M) o).In _;rcases ho with ho|⟨f,hf,i,hi,rfl⟩
  ·simp only[if_pos (hlt o ho)];rw[<-hids]at ho;rcases yN.1 ho with ho|ho
   ·obtain⟨f,hf,rfl⟩:=uN.1 ho;obtain⟨r,h1,h2⟩:=hF f hf;rw[hobo f hf];refine⟨?_, .cells _ λ c hc=>?_⟩
    ·rw[h1];simp only[Ob.ren]
     congr 1
     simp only[ZaR,gN];refine yE λ i hi=>?_
     have hi:=yD.1 hi;rw[(h2 i hi).1];simp only[Function.comp,Fam.ref,PV.ren];rw[if_neg (by have:=hge f hf i;omega)]
    ·simp only[ZaR,uN,yD]at hc;obtain⟨i,hi,rfl⟩:=hc;exact .ref _ _ _ _ _ (.inr ⟨f,hf,i,hi,rfl⟩)
   ·obtain⟨q,hq,rfl⟩:=uN.1 ho;rw[hobM q hq];have hin:=ZlU (c2 q hq);refine⟨(hM q hq).trans (Zw4 hin λ o ho=>?_),hin.mono λ o ho=> .inl ho⟩;rw[if_pos (hlt o ho)]
  ·simp only[if_neg (show¬fid f.j i<1125899906842624 by have:=hge f hf i;omega)];obtain⟨r,h1,h2⟩:=hF f hf;rw[ZlP ha hf hi];exact⟨(h2 i hi).2, .row _ _⟩
 ·show Zap Fs (Zam M) o= .dead;rw[Zhw λ f hf=>⟨λ he=>?_,λ i hi he=>?_⟩]
  ·refine Zhv M o λ hm=>ho (.inl ?_)
   rw[<-hids];exact Ba _ hm
  ·exact ho (.inl (by rw[<-hids];exact Bj _ (uN.2 ⟨f,hf,he.symm⟩)))
  ·exact ho (.inr ⟨f,hf,i,hi,he⟩)
 ·have big:∀z,(∃f∈Fs,∃i,i<f.n/\z=fid f.j i)->¬z<1125899906842624:=by
   rintro z ⟨f,hf,i,hi,rfl⟩;have:=hge f hf i;omega
  have mixed:∀x y,x∈ids->(∃f∈Fs,∃i,i<f.n/\y=fid f.j i)->gOf σ x=gOf σf y->False:=by
   intro x y hx hy he;have hb:=big y hy;rcases Zjy σf y with h|⟨p,hp,h1,h2⟩
   ·have:=(c5 x hx).2;omega
   ·exact hpair.2.2 (gOf σ x) (uN.2 ⟨x,hx,rfl⟩) p.2 (uN.2 ⟨p,hp,rfl⟩) (by rw[he,h2])
  rcases hx with hx|hx<;>rcases hy with hy|hy
  ·simp only[if_pos (hlt x hx),if_pos (hlt y hy)]at he;exact hinj0 x hx y hy he
  ·simp only[if_pos (hlt x hx),if_neg (big y hy)]at he;exact(mixed x y hx hy he).elim
  ·simp only[if_neg (big x hx),if_pos (hlt y hy)]at he;exact(mixed y x hy hx he.symm).elim
  ·simp only[if_neg (big x hx),if_neg (big y hy)]at he;have bx:=big x hx;have byy:=big y hy;rcases Zjy σf x with h|⟨p,hp,h1,h2⟩<;>rcases Zjy σf y with h'|⟨p',hp',h1',h2'⟩
   ·omega
   ·have:=(c6 p' hp').2;omega
   ·have:=(c6 p hp).2;omega
   ·have key:∀(l:List (Nat×Nat)),(l.map (·.2)).Nodup->∀p∈l,∀q∈l,p.2=q.2->p=q:=by
     intro l
     induction l with
     |nil=>intro _ p hp;cases hp
     |cons a l ih=>
      intro hn p hp q hq he;simp only[uX,yS]at hn;rcases yH.1 hp with hp'|hp'<;>rcases yH.1 hq with hq'|hq'
      ·rw[hp',hq']
      ·exact absurd (uN.2 ⟨q,hq',by rw[<-he,hp']⟩) hn.1
      ·exact absurd (uN.2 ⟨p,hp',by rw[he,hq']⟩) hn.1
      ·exact ih hn.2 p hp' q hq' he
    have:=key σf hpair.2.1 p hp p' hp' (by omega);rw[<-h1,<-h1',this]
 ·rcases ho with ho|⟨f,hf,i,hi,rfl⟩
  ·simp only[if_pos (hlt o ho)];exact(c5 o ho).1.1
  ·left
   have hb:=hge f hf i;simp only[if_neg (show¬fid f.j i<1125899906842624 by omega)];refine⟨by omega,?_⟩;rcases Zjy σf (fid f.j i)with h|⟨p,hp,h1,h2⟩
   ·omega
   ·rw[h2];exact(c6 p hp).1
 ·exact c7 o h1 h2 λ hm=>ho (.inl hm)
section rules
variable {P:Program}{B X:Nat->Prop}{w0:W0}{n:Nat}{Q:Exit->St->Prop}{S:St}
theorem Zee {c:Code}{κ:Type}(inv:κ->Prop)(L:κ->List (Nat×PV))(Fs:κ->List Fam)(M:κ->List (Nat×Ob))(m:κ->Nat)(k0:κ)(h0:inv k0)(h1:ZfD S (L k0) (Fs k0) (M k0))
  (round:∀k,inv k->PW P B X w0 n c (ZhK (λ S'=>∃k',inv k'/\ZfD S' (L k') (Fs k') (M k')/\m k'<m k) Q) ⟨Zbh (L k),Zap (Fs k) (Zam (M k))⟩):PW P B X w0 n (.loop c) Q S:=
 Zp5 (κ:={k:κ//inv k}) (λ k=>⟨Zbh (L k.1),Zap (Fs k.1) (Zam (M k.1))⟩) (λ k=>m k.1) ⟨k0,h0⟩ h1 λ k=>Zp6 (round k.1 k.2) λ e S' h=>by
  cases e with
  |normal=>obtain⟨k',h2,h3,h4⟩:=h;exact⟨⟨k',h2⟩,h3,h4⟩
  |_=>exact h
end rules
theorem Zh6 {S:St}(j o sz n:Nat)(h1:S.objs o= .cells (List.replicate n .nilS))(h2:∀i,i<n->S.objs (fid j i)= .dead)(hj:1<=j)(ho:o<1125899906842624):
  Ent S ⟨S.env,Zap [⟨j,o,sz,n,λ _=>[]⟩] S.objs⟩:=by
 rw[ZfN];intro B X w0 m a w ι hS;have cases3:∀x,(x=o/\Zap [⟨j,o,sz,n,λ _=>[]⟩] S.objs x= .cells (ZaR n (Fam.ref ⟨j,o,sz,n,λ _=>[]⟩)))\/(S.objs x= .dead/\Zap [⟨j,o,sz,n,λ _=>[]⟩] S.objs x= .row sz [])\/
   (x≠o/\Zap [⟨j,o,sz,n,λ _=>[]⟩] S.objs x=S.objs x):=by
  intro x;simp only[Zap];by_cases hx:x=o
  ·left;rw[if_pos hx];exact⟨hx,rfl⟩
  ·right
   rw[if_neg hx];by_cases hr:fid j 0<=x/\x<fid j n
   ·left;rw[if_pos hr]
    have:=h2 (x-fid j 0) (by simp only[fid]at*;omega);rw[show fid j (x-fid j 0)=x by simp only[fid]at*;omega]at this;exact⟨this,rfl⟩
   ·right;rw[if_neg hr];exact⟨hx,rfl⟩
 have live:∀x,Zap [⟨j,o,sz,n,λ _=>[]⟩] S.objs x≠ .gone->S.objs x≠ .gone:=by
  intro x hx;rcases cases3 x with⟨rfl,_⟩|⟨h,_⟩|⟨_,h⟩
  ·rw[h1];simp
  ·rw[h];simp
  ·rw[<-h];exact hx
 refine⟨ι,hS.size,hS.defers,hS.frame,hS.hB,hS.hXB,λ o1 o2 b f1 f2 e1 e2=>hS.inj o1 o2 b (live o1 f1) (live o2 f2) e1 e2,hS.free,hS.env,λ x=>?_,hS.stay⟩;show Ob.At w ι X x (Zap _ S.objs x);have hx:=hS.objs x;rcases cases3 x with⟨rfl,h⟩|⟨h,h'⟩|⟨_,h⟩
 ·rw[h];rw[h1]at hx;cases hx with
  |cells _ b c T hι hb hsz hone hat=>
   refine .cells _ b c T hι hb (by simpa[ZaR]using hsz) hone λ i p v hi hv=>?_
   obtain⟨hin,rfl⟩:=ZwV hi;have:=hat i .nilS v (by rw[gI,if_pos hin]) hv;cases this;exact .ref0 _ _ _ _
 ·rw[h'];exact .row0 _ (hS.dead h)
 ·rw[h];exact hx
def ZcH (o:Nat)(dom:Nat->Prop)(ob:Nat->Ob):Prop:=∀x,x≠o->Ob.In dom (ob x)
def Zeu (j k:Nat)(ob:Nat->Ob):Nat->Ob:=upd (fid j k) .dead ob
theorem ZeF {o j k:Nat}{dom:Nat->Prop}{ob:Nat->Ob}(h:ZcH o dom ob):ZcH o dom (Zeu j k ob):=λ x hx=>by
 simp only[Zeu,upd];split
 ·exact .dead
 ·exact h x hx
theorem ZeI {o u sz:Nat}{l:List D}{dom:Nat->Prop}{ob:Nat->Ob}(h:ZcH o dom ob):ZcH o dom (upd u (.row sz l) ob):=λ x hx=>by
 simp only[upd];split
 ·exact .row _ _
 ·exact h x hx
theorem ZeD {o u:Nat}{dom:Nat->Prop}{ob:Nat->Ob}(h:ZcH o dom ob):ZcH o dom (upd u .dead ob):=λ x hx=>by
 simp only[upd];split
 ·exact .dead
 ·exact h x hx
theorem ZeJ {o:Nat}{c:Ob}{dom:Nat->Prop}{ob:Nat->Ob}(h:ZcH o dom ob):ZcH o dom (upd o c ob):=λ x hx=>by
 simp only[upd,if_neg hx];exact h x hx
theorem ZeH {o j k u:Nat}{ids:List Nat}{M:List (Nat×Ob)}(h:(M.all λ q=>q.2.only ids)=true)(hi:(ids.all λ i=>decide (i<1125899906842624)&& !(Nat.beq i u))=true)(hj:1<=j):
  ZcH o (λ x=>x≠fid j k/\x≠u) (Zam M):=λ x _=>by
 rcases Ziz M x with⟨h1,_⟩|⟨p,h1,h2⟩
 ·rw[h1];exact .dead
 ·rw[h2];simp only[uW]at h hi;refine(ZlU (h (x,p) h1)).mono λ y hy=>?_
  have:=hi y hy;simp only[uO,uG,yK]at this;refine⟨by simp only[fid];omega,λ he=>?_⟩;have:=this.2;rw[he]at this;simp at this
theorem ZeK {j o sz n:Nat}{rows:Nat->List D}{dom:Nat->Prop}{Fs:List Fam}{base:Nat->Ob}(h:ZcH o dom (Zap Fs base)):ZcH o dom (Zap (⟨j,o,sz,n,rows⟩::Fs) base):=λ x hx=>by
 simp only[Zap,if_neg hx];split
 ·exact .row _ _
 ·exact h x hx
theorem ZeE {o j k u:Nat}{f:Fam}{Fs:List Fam}{base:Nat->Ob}(hj:f.j≠j)(hn:f.n<=1125899906842624)(hk:k<1125899906842624)(hu:u<1125899906842624)(h1:1<=f.j)
  (h:ZcH o (λ x=>x≠fid j k/\x≠u) (Zap Fs base)):ZcH o (λ x=>x≠fid j k/\x≠u) (Zap (f::Fs) base):=λ x hx=>by
 simp only[Zap];split
 ·refine .cells _ λ c hc=>?_
  simp only[ZaR,uN,yD]at hc;obtain⟨i,hi,rfl⟩:=hc;refine .ref _ _ _ _ _ ⟨λ he=>hj ?_,by simp only[fid];omega⟩;exact(Zlc he (by omega) hk).1
 ·split
  ·exact .row _ _
  ·exact h x hx
theorem ZeG {o:Nat}{dom:Nat->Prop}{base:Nat->Ob}(h:ZcH o dom base):ZcH o dom (Zap [] base):=h
theorem ZeP (L:List (Nat×PV))(ob:Nat->Ob)(ids:List Nat)(o k u j sz n:Nat){r:Nat->PV}{l:List D}(ho:ob o= .cells (ZaR n r))(hf:ob (fid j k)= .row sz l)(hr:r k= .ref (fid j k) sz 0 l.length l.length)
  (hc:∀i,i<n->i≠k->(r i).In (λ x=>x≠fid j k/\x≠u))(hob:ZcH o (λ x=>x≠fid j k/\x≠u) ob)
  (hL:(L.all λ p=>p.2.only ids 4)=true)(hids:(ids.all λ i=>decide (i<1125899906842624)&& !(Nat.beq i u))=true)
  (hu:((decide (u<1000)||decide (2000<=u))&&decide (u<1125899906842624)&& !(Nat.beq o u)&&decide (1<=j)&&decide (o<1125899906842624))=true):
  Ent ⟨Zbh L,ob⟩ ⟨Zbh L,upd u (.row sz l) (Zeu j k (upd o (.cells (ZaR n (upd k (.ref u sz 0 l.length l.length) r))) ob))⟩:=by
 unfold Zeu;simp only[uO,qY,uG,yK]at hu;obtain⟨⟨⟨⟨hu1,hu2⟩,hu3⟩,hj⟩,ho5⟩:=hu;have hou:o≠u:=λ he=>by rw[he]at hu3;simp at hu3
 have hbig:∀x,x<1125899906842624->x≠fid j k:=λ x hx=>by simp only[fid];omega
 simp only[uW,uO,uG,yK]at hL hids;refine Zoe (λ x=>if x=u then fid j k else x) (λ x=>x≠fid j k) (λ t=>?_) (λ x hx=>?_) (λ x hx=>?_) (λ x hx y hy he=>?_) (λ x hx=>?_) (λ x h1 h2 hx=>?_)
 ·rcases Zju L t with h|⟨p,hp,h⟩
  ·exact .inl h
  ·right
   simp only[h];have hin:=ZjR 4 _ (hL (t,p) hp);have hne:∀y,y∈ids->y≠u:=λ y hy he=>by have:=(hids y hy).2;rw[he]at this;simp at this
   exact⟨(Zj3 hin λ y hy=>if_neg (hne y hy)).symm,hin.mono λ y hy=>hbig y (hids y hy).1⟩
 ·simp only[upd];by_cases h1:x=u
  ·subst h1;rw[if_pos rfl,if_pos rfl];exact⟨hf, .row _ _⟩
  ·rw[if_neg h1,if_neg h1,if_neg hx];by_cases h2:x=o
   ·subst h2;rw[if_pos rfl];refine⟨?_, .cells _ λ c hcm=>?_⟩
    ·rw[ho];simp only[Ob.ren]
     congr 1
     simp only[ZaR,gN];refine yE λ i hi=>?_
     have hi:=yD.1 hi;simp only[Function.comp];by_cases hik:i=k
     ·subst hik;rw[upd,if_pos rfl,hr];simp only[PV.ren,if_pos]
     ·rw[upd,if_neg hik];exact(Zj3 (hc i hi hik) λ y hy=>if_neg hy.2).symm
    ·simp only[ZaR,uN,yD]at hcm;obtain⟨i,hi,rfl⟩:=hcm;by_cases hik:i=k
     ·rw[upd,if_pos hik];exact .ref _ _ _ _ _ (hbig u hu2)
     ·rw[upd,if_neg hik];exact(hc i hi hik).mono λ y hy=>hy.1
   ·rw[if_neg h2];have hin:=hob x h2;exact⟨(Zqg hin λ y hy=>if_neg hy.2).symm,hin.mono λ y hy=>hy.1⟩
 ·have hx:x=fid j k:=Ce.1 hx;subst hx;show upd u _ _ _=_;rw[upd,if_neg (λ he=>hbig u hu2 he.symm),upd,if_pos rfl]
 ·split at he<;>split at he
  ·omega
  ·exact absurd he.symm hy
  ·exact absurd he hx
  ·exact he
 ·by_cases h1:x=u
  ·subst h1;left;rw[if_pos rfl];refine⟨hu1,?_⟩;simp only[fid];omega
  ·right;rw[if_neg h1]
 ·have hx:x=fid j k:=Ce.1 hx;simp only[fid]at hx;omega
theorem Zh7 (f:Fam)(Fs:List Fam)(L:List (Nat×PV))(M:List (Nat×Ob))(ha:Zgp (f::Fs))(hMo:(M.all λ q=>decide (q.1<1125899906842624)&& !(Nat.beq q.1 f.o))=true)
  (ids:List Nat)(hL:(L.all λ p=>p.2.only ids 4)=true)(hM:(M.all λ q=>q.2.only ids)=true)(hids:(ids.all λ i=>decide (i<1125899906842624))=true)
  (hng:(M.all λ q=>match q.2 with| .gone=>false|_=>true)=true):
  Ent ⟨Zbh L,Zap (f::Fs) (Zam M)⟩ ⟨Zbh L,Zap Fs (Zam ((f.o, .row 1 ((List.range f.n).map λ i=> .sl (f.rows i)))::M))⟩:=by
 rw[ZfN];intro B X w0 m a w ι hS;have dec:=λ x=>Classical.propDecidable (∃i,i<f.n/\x=fid f.j i)
 have hf:=ha.2.2 f (by simp);simp only[uW,uO,uG,yK]at hL hM hids hMo
 let ι':Nat->Option Nat:=λ x=>if∃i,i<f.n/\x=fid f.j i then none else ι x
 have hsub:∀x b,ι' x=some b->(¬∃i,i<f.n/\x=fid f.j i)/\ι x=some b:=by
  intro x b h;by_cases hx:∃i,i<f.n/\x=fid f.j i
  ·simp only[ι',if_pos hx]at h;cases h
  ·simp only[ι',if_neg hx]at h;exact⟨hx,h⟩
 have hκ:∀x,(¬∃i,i<f.n/\x=fid f.j i)->ι' x=ι x:=λ x hx=>if_neg hx
 have hX:∀b,ownX ι' X b->ownX ι X b:=by
  rintro b (hb|⟨o,hb⟩)
  ·exact .inl hb
  ·exact .inr ⟨o,(hsub o b hb).2⟩
 have nogone:∀x,Zap (f::Fs) (Zam M) x≠ .gone:=by
  have hb:∀x,Zam M x≠ .gone:=ZcP M hng;have:∀(Fs:List Fam) x,Zap Fs (Zam M) x≠ .gone:=by
   intro Fs
   induction Fs with
   |nil=>exact hb
   |cons g Fs ih=>intro x;simp only[Zap];split;· simp
                  · split
                    · simp
                    · exact ih x
  exact this _
 have hnb:∀i b,i<f.n->ι (fid f.j i)=some b->¬ownX ι' X b:=by
  intro i b hi hι;rintro(hx|⟨o',ho'⟩)
  ·exact(hS.free _ b hι).1 (hS.hXB.1 b hx)
  ·obtain⟨h1,h2⟩:=hsub o' b ho';exact h1 ⟨i,hi,hS.inj o' _ b (nogone _) (nogone _) h2 hι⟩
 have small:∀x,x<1125899906842624->¬∃i,i<f.n/\x=fid f.j i:=by
  rintro x hx ⟨i,_,rfl⟩;simp only[fid]at hx;omega
 have hpv:∀p v,PV.In (λ x=>¬∃i,i<f.n/\x=fid f.j i) p->PV.At w ι X p v->PV.At w ι' X p v:=by
  intro p v hin hp;refine Zkr (g:=λ x=>x) (dom:=λ x=>¬∃i,i<f.n/\x=fid f.j i) hκ hX hin v ?_;rw[Zj3 hin λ _ _=>rfl];exact hp
 have hobv:∀x ob,(¬∃i,i<f.n/\x=fid f.j i)->Ob.In (λ x=>¬∃i,i<f.n/\x=fid f.j i) ob->Ob.At w ι X x ob->Ob.At w ι' X x ob:=by
  intro x ob hx hin hp;refine Zm1 (g:=λ x=>x) (dom:=λ x=>¬∃i,i<f.n/\x=fid f.j i) hκ hX hx hin ?_;rw[Zqg hin λ _ _=>rfl];exact hp
 have hnew:∀x,(x=f.o/\Zap Fs (Zam ((f.o, .row 1 ((List.range f.n).map λ i=> .sl (f.rows i)))::M)) x= .row 1 ((List.range f.n).map λ i=> .sl (f.rows i)))\/
   ((∃i,i<f.n/\x=fid f.j i)/\Zap Fs (Zam ((f.o, .row 1 ((List.range f.n).map λ i=> .sl (f.rows i)))::M)) x= .dead)\/
   (x≠f.o/\(¬∃i,i<f.n/\x=fid f.j i)/\Zap Fs (Zam ((f.o, .row 1 ((List.range f.n).map λ i=> .sl (f.rows i)))::M)) x=Zap (f::Fs) (Zam M) x):=by
  intro x;by_cases h1:x=f.o
  ·left
   refine⟨h1,?_⟩;subst h1;rw[Zhw λ g hg=>⟨λ he=>?_,λ i hi he=>?_⟩]
   ·exact if_pos rfl
   ·have:=ha.2.1;simp only[uX,yS]at this;exact this.1 (uN.2 ⟨g,hg,he.symm⟩)
   ·have:=(ha.2.2 g (uM _ hg)).1;have h3:=hf.2.1;rw[he]at h3;simp only[fid]at h3;omega
  ·right
   by_cases h2:∃i,i<f.n/\x=fid f.j i
   ·left
    refine⟨h2,?_⟩;obtain⟨i,hi,rfl⟩:=h2;rw[Zhw λ g hg=>⟨λ he=>?_,λ i' hi' he=>?_⟩]
    ·refine Zhv _ _ λ hm=>?_
     simp only[uX,yH]at hm;rcases hm with he|hm
     ·exact h1 he
     ·obtain⟨q,hq,he⟩:=uN.1 hm;have:=(hMo q hq).1;rw[he]at this;simp only[fid]at this;omega
    ·have:=(ha.2.2 g (uM _ hg)).2.1;rw[<-he]at this;simp only[fid]at this;omega
    ·have hgn:=(ha.2.2 g (uM _ hg)).2.2;have:=(Zlc he (by omega) (by omega)).1;have h5:=ha.1;simp only[uX,yS]at h5;exact h5.1 (uN.2 ⟨g,hg,this.symm⟩)
   ·right
    refine⟨h1,h2,?_⟩;show _=Zap (f::Fs) (Zam M) x;simp only[Zap];rw[if_neg h1,if_neg (λ hx=>h2 ⟨x-fid f.j 0,by simp only[fid]at*;omega,by simp only[fid]at*;omega⟩)];have e:∀(Fs:List Fam),Zap Fs (Zam ((f.o, .row 1 ((List.range f.n).map λ i=> .sl (f.rows i)))::M)) x=Zap Fs (Zam M) x:=by
     intro Fs
     induction Fs with
     |nil=>exact if_neg h1
     |cons g Fs ih=>simp only[Zap];rw[ih]
    exact e Fs
 refine⟨ι',hS.size,hS.defers,hS.frame,hS.hB,hS.hXB,λ o1 o2 b _ _ e1 e2=>hS.inj o1 o2 b (nogone _) (nogone _) (hsub o1 b e1).2 (hsub o2 b e2).2,λ o b hb=>hS.free o b (hsub o b hb).2,λ t=>?_,λ x=>?_,λ o b hb=>?_⟩
 ·have:=hS.env t;show PV.At w ι' X (Zbh L t) _;have this:PV.At w ι X (Zbh L t) _:=this;rcases Zju L t with h|⟨p,hp,h⟩
  ·rw[h];exact .unk _
  ·rw[h]at this|-;exact hpv p _ ((ZjR 4 _ (hL (t,p) hp)).mono λ y hy=>small y (hids y hy)) this
 ·show Ob.At w ι' X x (Zap Fs (Zam ((f.o, .row 1 ((List.range f.n).map λ i=> .sl (f.rows i)))::M)) x);rcases hnew x with⟨rfl,h⟩|⟨hx,h⟩|⟨h1,h2,h⟩
  ·rw[h];have ho:=hS.objs f.o;rw[show(⟨Zbh L,Zap (f::Fs) (Zam M)⟩:St).objs f.o= .cells (ZaR f.n f.ref)from ZlQ ha (by simp)]at ho;cases ho with
   |cells _ b c T hι hb hsz hone hat=>
    refine .row 1 _ b c T ((hκ _ (small _ hf.2.1)).trans hι) hb (by simp[ZaR]at hsz|-;omega) (λ d hd=>?_) hone λ i d j e v hi hj hv=>?_
    ·obtain⟨i,_,rfl⟩:=uN.1 hd;rfl
    ·rw[uI]at hi;cases hr:(List.range f.n)[i]? with
     |none=>rw[hr]at hi;cases hi
     |some i'=>
      rw[hr]at hi;have hin:i<f.n:=by simpa using(uB.1 hr).1
      have hii:i'=i:=by rw[qQ hin]at hr;cases hr;rfl
      subst hii;simp only[yV,uZ]at hi;subst hi;have hj0:j=0/\e= .sl (f.rows i'):=by
       simp only[D.cells]at hj;cases j with
       |zero=>simp at hj;exact⟨rfl,hj.symm⟩
       |succ j=>simp at hj
      obtain⟨rfl,rfl⟩:=hj0;rw[jQ,gH]at hv;have hat':=hat i' (f.ref i') v (ZiM hin) hv;have hrow:=hS.objs (fid f.j i');rw[show(⟨Zbh L,Zap (f::Fs) (Zam M)⟩:St).objs (fid f.j i')= .row f.sz (f.rows i')from ZlP ha (by simp) hin]at hrow;have hnbi:=λ b=>hnb i' b hin
      simp only[Fam.ref]at hat';generalize f.rows i'=l at hat' hrow|-;generalize hlen:l.length=len at hat';cases hat' with
      |ref0 _ _ _ base=>
       have:l=[]:=jX.1 hlen;subst this;exact .slnil _ _
      |ref _ _ _ _ _ capr b' hι' hl hc hm hs=>
       cases hrow with
       |row0 _ h=>rw[h]at hι';cases hι'
       |row _ _ b2 c' T' hι'' hb' hsz' hcl' hone' hat''=>
        obtain rfl:b2=b':=by rw[hι'']at hι';exact Option.some.inj hι'
        have cell:∀(i:Nat) d (j:Nat) e,l[i]? =some d->d.cells[j]? =some e->∃v,c'[i*f.sz+j]? =some v/\v.oneCell'=true/\D.At w (ownX ι' X) e v:=by
         intro i d j e hi hj;have hjs:j<f.sz:=by rw[<-hcl' d (uA hi)];exact(uB.1 hj).1
         have hil:=(uB.1 hi).1;have hlt:i*f.sz+j<c'.size:=by
          have:(i+1)*f.sz<=l.length*f.sz:=yF _ (by omega);rw[qE]at this;omega
         have hg:c'[i*f.sz+j]? =some c'[i*f.sz+j]:=uT hlt;exact⟨_,hg,hone' _ _ hg,(hat'' i d j e _ hi hj hg).sub hX⟩
        have:=D.At.sl (w:=w) (X:=ownX ι' X) l b2 (0*f.sz) capr f.sz (by rw[hlen];exact hl) hm hcl'
         (λ i j=>(w.cell? ⟨b2,0*f.sz+i*f.sz+j,none⟩).getD undef) (λ i d j e hi hj=>by
          obtain⟨v,g2,g3,g4⟩:=cell i d j e hi hj;have hc:w.cell? ⟨b2,0*f.sz+i*f.sz+j,none⟩=some v:=by rw[ZcB hb',jI,qO];exact g2
          rw[hc];exact⟨rfl,g3,hnbi b2 hι''⟩) (λ i d j e hi hj=>by
          obtain⟨v,g2,g3,g4⟩:=cell i d j e hi hj;have hc:w.cell? ⟨b2,0*f.sz+i*f.sz+j,none⟩=some v:=by rw[ZcB hb',jI,qO];exact g2
          rw[hc];exact g4)
        rw[hlen]at this;exact this
  ·rw[h];exact .dead (if_pos hx)
  ·rw[h];refine hobv x _ h2 ?_ (hS.objs x);have e:∀(Fs:List Fam),(∀g,g∈Fs->g.j≠f.j/\g.n<=1125899906842624)->∀x,Ob.In (λ x=>¬∃i,i<f.n/\x=fid f.j i) (Zap Fs (Zam M) x):=by
    intro Fs
    induction Fs with
    |nil=>
     intro _ x;show Ob.In _ (Zam M x);rcases Ziz M x with⟨h1,_⟩|⟨p,h1,h2⟩
     ·rw[h1];exact .dead
     ·rw[h2];exact(ZlU (hM (x,p) h1)).mono λ y hy=>small y (hids y hy)
    |cons g Fs ih=>
     intro hg x;simp only[Zap];split
     ·refine .cells _ λ c hc=>?_
      simp only[ZaR,uN,yD]at hc;obtain⟨i,hi,rfl⟩:=hc;refine .ref _ _ _ _ _ ?_;rintro⟨i',hi',he⟩;have:=hg g (by simp);exact this.1 (Zlc he (by omega) (by omega)).1
     ·split
      ·exact .row _ _
      ·exact ih (λ g' hg'=>hg g' (uM _ hg')) x
   show Ob.In _ (Zap (f::Fs) (Zam M) x);have hne:¬(fid f.j 0<=x/\x<fid f.j f.n):=λ hx=>h2 ⟨x-fid f.j 0,by simp only[fid]at*;omega,by simp only[fid]at*;omega⟩
   simp only[Zap];rw[if_neg h1,if_neg hne];refine e Fs (λ g hg=>⟨λ he=>?_,(ha.2.2 g (uM _ hg)).2.2⟩) x;have h5:=ha.1;simp only[uX,yS]at h5;exact h5.1 (uN.2 ⟨g,hg,he⟩)
 ·obtain⟨g1,g2,g3⟩:=hS.stay o b hb;exact⟨g1,(hκ o (small o (by omega))).trans g2,g3⟩
@[go_sem] theorem Zdo {t j i:Nat}(h:t<1125899906842624)(hj:1<=j):(t=fid j i)=False:=by
 simp only[fid,eq_iff_iff,iff_false];omega
@[go_sem] theorem Zdk {t j i:Nat}(h:t<1125899906842624)(hj:1<=j):(fid j i=t)=False:=by
 simp only[fid,eq_iff_iff,iff_false];omega
@[go_sem] theorem ZtQ {j a b:Nat}:(fid j a=fid j b)=(a=b):=by simp only[fid,eq_iff_iff];omega
@[go_sem] theorem ZpB {base:Nat->Ob}:Zap [] base=base:=rfl
def ZvP :List Fam->(Nat->Ob)->Nat->Ob:=Zap
@[go_sem] theorem ZAt {j o sz n t:Nat}{rows:Nat->List D}{fs:List Fam}{base:Nat->Ob}:
  Zap (⟨j,o,sz,n,rows⟩::fs) base t=if t<1125899906842624/\1<=j then(if t=o then .cells (ZaR n (Fam.ref ⟨j,o,sz,n,rows⟩))else Zap fs base t)else ZvP (⟨j,o,sz,n,rows⟩::fs) base t:=by
 split
 ·rename_i h;simp only[Zap];rw[if_neg (show¬(fid j 0<=t/\t<fid j n) by simp only[fid];omega)]
 ·rfl
@[go_sem high] theorem ZAs {j o sz n i:Nat}{rows:Nat->List D}{fs:List Fam}{base:Nat->Ob}(h:o<1125899906842624)(hj:1<=j)(hi:i<n):
  Zap (⟨j,o,sz,n,rows⟩::fs) base (fid j i)= .row sz (rows i):=by
 simp only[Zap];rw[if_neg (by simp only[fid];omega),if_pos (by simp only[fid];omega)]
 congr 2;simp only[fid];omega
def Zuk :Nat->Nat->(Nat->Ob)->Nat->Ob:=Zeu
@[go_sem] theorem ZAr {j k t:Nat}{ob:Nat->Ob}:Zeu j k ob t=if t<1125899906842624/\1<=j then ob t else Zuk j k ob t:=by
 split
 ·rename_i h;exact if_neg (by simp only[fid];omega)
 ·rfl
@[go_sem high] theorem ZAq {j k i:Nat}{ob:Nat->Ob}:Zeu j k ob (fid j i)=if i=k then .dead else ob (fid j i):=by
 simp only[Zeu,upd,ZtQ]
theorem ZiA {M:List (Nat×Ob)}{j i:Nat}(h:(M.all λ q=>decide (q.1<1125899906842624))=true)(hj:1<=j):Zam M (fid j i)= .dead:=by
 refine Zhv M _ λ hm=>?_
 obtain⟨q,hq,he⟩:=uN.1 hm;simp only[uW,uG]at h;have:=h q hq;rw[he]at this;simp only[fid]at this;omega
def Zqe (n:Nat)(r:Nat->PV)(k:Nat):List PV:=(ZaR n r).drop (k+1)
@[go_sem high] theorem ZAw {n k:Nat}{r:Nat->PV}(h:k<n):(ZaR n r).drop k=r k::Zqe n r k:=by
 rw[Zqe,gL (by simpa[ZaR]using h)]
 congr 1
 simp[ZaR]
@[go_sem] theorem Zmc {n:Nat}{r:Nat->PV}:(ZaR n r).length=n:=by simp[ZaR]
@[go_sem high] theorem ZAy {n k:Nat}{r:Nat->PV}{x:PV}(h:k<n):ZbE (ZaR n r) k [x]=ZaR n (upd k x r):=by
 refine qL λ i=>?_
 have hl:(ZaR n r).length=n:=Zmc;simp only[ZbE,qN];by_cases hi:i<n
 ·rw[ZiM hi];rcases Aw i k with h1|h1|h1
  ·rw[yP,qH (by simp;omega),An h1,ZiM hi,upd,if_neg (by omega)]
  ·subst h1;have e:(List.take i (ZaR n r)).length=i:=by rw[uS,hl];omega
   rw[yP,yZ (by omega),upd,if_pos rfl,e,gZ];rfl
  ·have e:(List.take k (ZaR n r)++[x]).length=k+1:=by rw[uC,uS,hl,qN];omega
   rw[yZ (by omega),qZ,upd,if_neg (by omega),<-ZiM hi,e]
   congr 1;omega
 ·rw[uP (by simp[hl];omega),uP (by rw[Zmc];omega)]
@[go_sem] theorem ZAz {n:Nat}{r:Nat->PV}:(ZaR n r).take n=ZaR n r:=uD (by rw[Zmc];exact uH _)
@[go_sem] theorem ZAx {n:Nat}{r:Nat->PV}{x:PV}:ZaR n r++[x]=ZaR (n+1) (upd n x r):=by
 rw[ZaR,ZaR,gG,yB]
 congr 1
 ·exact yE λ i hi=>by rw[upd,if_neg (by have:=yD.1 hi;omega)]
 ·simp[upd]
attribute [go_sem] Fam.ref jQ
theorem Zl1 {ids:List Nat}{f:Fam}{Fs:List Fam}{base:Nat->Ob}(h1:(decide (f.o<1000)||decide (2000<=f.o)||ids.contains f.o)=true)(hj:Nat.ble 1 f.j=true)(h:ZbJ ids (Zap Fs base)):ZbJ ids (Zap (f::Fs) base):=by
 intro o h2 h3 h4;simp only[qY,uG,yJ]at h1;have hj:=uU hj
 have hne:o≠f.o:=λ he=>by subst he;rcases h1 with(h|h)|h;· omega
                          · omega
                          · exact h4 h
 simp only[Zap];rw[if_neg hne,if_neg (by simp only[fid];omega)];exact h o h2 h3 h4
theorem Zl3 {ids:List Nat}{base:Nat->Ob}(h:ZbJ ids base):ZbJ ids (Zap [] base):=h
theorem Zl2 {ids:List Nat}{objs:Nat->Ob}{j k:Nat}(hj:Nat.ble 1 j=true)(h:ZbJ ids objs):ZbJ ids (Zeu j k objs):=by
 intro o h1 h2 h3;have hj:=uU hj;rw[Zeu,upd,if_neg (by simp only[fid];omega)];exact h o h1 h2 h3
theorem Zld {j i t:Nat}(hj:1<=j)(h:t<1125899906842624):fid j i≠t/\¬(fid j 0<=t/\t<fid j i):=by
 simp only[fid];omega
theorem Zuc (o sz:Nat)(l:List D)(base:Nat->Ob)(ho:o<1125899906842624):∀(Fs:List Fam),(∀f,f∈Fs->o≠f.o/\1<=f.j)->∀x,upd o .dead (ZfO o sz l (Zap Fs base)) x=Zap Fs (upd o .dead (ZfO o sz l base)) x:=by
 intro Fs
 induction Fs with
 |nil=>intro _ x;rw[ZpB,ZpB]
 |cons f Fs ihF=>
  intro h x;obtain⟨hof,hj⟩:=h f (by simp);have ih:=ihF (λ g hg=>h g (uM _ hg)) x;simp only[Zap];by_cases hx:x=o
  ·have hxf:¬x=f.o:=λ he=>hof (hx.symm.trans he)
   rw[if_neg hxf,if_neg (by rw[hx];exact(Zld hj ho).2),<-ih,upd,if_pos hx,upd,if_pos hx]
  ·rw[<-ih,upd,if_neg hx,Zfi,upd,if_neg hx,Zfi];by_cases h1:x=f.o
   ·rw[if_pos h1,if_pos h1];simp only[Ob.frz,PV.frzL_eq]
    congr 1
    simp only[ZaR,gN];refine yE λ i _=>?_
    simp only[Function.comp,Fam.ref,PV.frz];rw[if_neg (Zld hj ho).1]
   ·rw[if_neg h1,if_neg h1];by_cases h2:fid f.j 0<=x/\x<fid f.j f.n
    ·rw[if_pos h2,if_pos h2];rfl
    ·rw[if_neg h2,if_neg h2]
theorem ZtA (L:List (Nat×PV))(Fs:List Fam)(M:List (Nat×Ob))(o sz:Nat)(l:List D)(hM:Zam M o= .row sz l)(hF:(Fs.all λ f=> !(Nat.beq o f.o)&&Nat.ble 1 f.j)=true)(ho:decide (o<1125899906842624)=true)
  (hng:(M.all λ q=>match q.2 with| .gone=>false|_=>true)=true)(hmv:o<1000\/2000<=o):Ent ⟨Zbh L,Zap Fs (Zam M)⟩ ⟨Zlm o sz l (Zbh L),Zap Fs (upd o .dead (ZfO o sz l (Zam M)))⟩:=by
 have ho:o<1125899906842624:=of_decide_eq_true ho;have hF':∀f,f∈Fs->o≠f.o/\1<=f.j:=by
  intro f hf;simp only[uW,uO,yK]at hF;have h1:=hF f hf;exact⟨λ he=>by have:=h1.1;rw[he]at this;simp at this,uU h1.2⟩
 have h2:Zap Fs (Zam M) o= .row sz l:=by
  rw[Zhw λ f hf=>⟨(hF' f hf).1,λ i _ he=>(Zld (hF' f hf).2 ho).1 he.symm⟩];exact hM
 have nog:∀(Fs:List Fam) x,Zap Fs (Zam M) x≠ .gone:=by
  intro Fs
  induction Fs with
  |nil=>exact ZcP M hng
  |cons g Fs ih=>intro x;simp only[Zap];split;· simp
                 · split
                   · simp
                   · exact ih x
 have:=Zc2 (S:=⟨Zbh L,Zap Fs (Zam M)⟩) o sz l h2 (nog Fs) hmv;rw[show(upd o .dead (ZfO o sz l (Zap Fs (Zam M))):Nat->Ob)=Zap Fs (upd o .dead (ZfO o sz l (Zam M)))from funext (Zuc o sz l (Zam M) ho Fs hF')]at this;exact this
theorem Zof {S:St}(o n:Nat)(h1:S.objs o= .cells (List.replicate n .nilS)):Ent S ⟨S.env,upd o (.row 1 (List.replicate n (.sl []))) S.objs⟩:=by
 rw[ZfN];intro B X w0 m a w ι hS;refine⟨ι,hS.size,hS.defers,hS.frame,hS.hB,hS.hXB,λ o1 o2 b f1 f2 e1 e2=>?_,hS.free,hS.env,λ p=>?_,hS.stay⟩
 ·have live:∀o',upd o (.row 1 (List.replicate n (.sl []))) S.objs o'≠ .gone->S.objs o'≠ .gone:=by
   intro o' hg;by_cases he:o'=o
   ·rw[he,h1];simp
   ·simp only[upd,if_neg he]at hg;exact hg
  exact hS.inj o1 o2 b (live o1 f1) (live o2 f2) e1 e2
 ·by_cases hp:p=o
  ·subst hp;have hq:=hS.objs p;rw[h1]at hq;simp only[upd,if_true];cases hq with
   |cells _ b c T hι hb hsz hone h=>
    have hd:∀d,d∈List.replicate n (D.sl [])->d= .sl []:=λ d hd=>zO hd
    refine .row 1 _ b c T hι hb (by rw[qV]at hsz|-;omega) (λ d h=>by rw[hd d h];rfl) hone λ i d j e v hi hj hv=>?_
    have hdi:=hd d (uA hi);subst hdi;have hin:i<n:=by
     have:=(uB.1 hi).1;simpa using this
    rcases j with _|j
    ·simp only[D.cells,As,uZ]at hj;subst hj;have:=h i .nilS v (by rw[gI,if_pos hin]) (by simpa using hv);cases this;exact .slnil none 0
    ·simp[D.cells]at hj
  ·simp only[upd,if_neg hp];exact hS.objs p
theorem Ztz {S:St}{L:List (Nat×PV)}{Fs:List Fam}{M:List (Nat×Ob)}:ZfD S L Fs M↔Ent S ⟨Zbh L,Zap Fs (Zam M)⟩:=Iff.rfl
attribute [irreducible] ZfD Zap fid ZaR Zeu
theorem PV.At.rn {w:World}{ι ι':Nat->Option Nat}{X:Nat->Prop}{g:Nat->Nat}(hι:∀o b,ι o=some b->ι' (g o)=some b)(hX:∀b,ownX ι' X b->ownX ι X b){p:PV}{v:Value}(h:PV.At w ι X p v):PV.At w ι' X (p.ren g) v:=by
 induction h with
 |d x v h=>simp only[PV.ren];exact .d _ _ (h.sub hX)
 |ref o sz off len cap capr b hb hl hc hm hs=>simp only[PV.ren];exact .ref _ sz off len cap capr b (hι o b hb) hl hc hm hs
 |ref0 o sz off base=>simp only[PV.ren];exact .ref0 _ _ _ base
 |ptr o sz i c b hb=>simp only[PV.ren];exact .ptr _ sz i c b (hι o b hb)
 |nilS=>simp only[PV.ren];exact .nilS
 |z0 base=>simp only[PV.ren];exact .z0 base
 |ag cs arr hsz hone _ ih=>
  simp only[PV.ren,PV.renL_eq];refine .ag _ arr (by simpa using hsz) hone λ j p v hj hv=>?_
  rw[uI]at hj;cases hq:cs[j]? with
  |none=>rw[hq]at hj;cases hj
  |some q=>rw[hq]at hj;cases hj;exact ih j q v hq hv
 |tup cs arr hsz _ ih=>
  simp only[PV.ren,PV.renL_eq];refine .tup _ arr (by simpa using hsz) λ j p v hj hv=>?_
  rw[uI]at hj;cases hq:cs[j]? with
  |none=>rw[hq]at hj;cases hj
  |some q=>rw[hq]at hj;cases hj;exact ih j q v hq hv
 |fn f cs arr hsz _ ih=>
  simp only[PV.ren,PV.renL_eq];refine .fn f _ arr (by simpa using hsz) λ j p v hj hv=>?_
  rw[uI]at hj;cases hq:cs[j]? with
  |none=>rw[hq]at hj;cases hj
  |some q=>rw[hq]at hj;cases hj;exact ih j q v hq hv
 |unk v=>simp only[PV.ren];exact .unk v
 |und=>simp only[PV.ren];exact .und
 |ab b=>simp only[PV.ren];exact .ab b
 |mp o b hb=>simp only[PV.ren];exact .mp _ b (hι o b hb)
 |ifp T o b hb=>simp only[PV.ren];exact .ifp T _ b (hι o b hb)
theorem Ob.At.rn {w:World}{ι ι':Nat->Option Nat}{X:Nat->Prop}{g:Nat->Nat}(hι:∀o b,ι o=some b->ι' (g o)=some b)(hX:∀b,ownX ι' X b->ownX ι X b){o o':Nat}(ho:ι' o'=ι o){ob:Ob}(h:Ob.At w ι X o ob):Ob.At w ι' X o' (ob.ren g):=by
 cases h with
 |dead h=>simp only[Ob.ren];exact .dead (ho.trans h)
 |gone=>simp only[Ob.ren];exact .gone
 |cells cs b c T hb hbb hsz hone hat=>
  simp only[Ob.ren];refine .cells _ b c T (ho.trans hb) hbb (by simpa using hsz) hone λ j p v hj hv=>?_
  rw[uI]at hj;cases hq:cs[j]? with
  |none=>rw[hq]at hj;cases hj
  |some q=>rw[hq]at hj;cases hj;exact(hat j q v hq hv).rn hι hX
 |row0 sz h=>simp only[Ob.ren];exact .row0 sz (ho.trans h)
 |row sz l b c T hb hbb hsz hcl hone hat=>simp only[Ob.ren];exact Ob.At.row (o:=o') (X:=X) sz l b c T (ho.trans hb) hbb hsz hcl hone λ i d j e v hi hj hv=>(hat i d j e v hi hj hv).sub hX
 |imap l b es clock hb hbb he=>simp only[Ob.ren];exact .imap l b es clock (ho.trans hb) hbb he
 |iter m k sn b bm hb hm hbb=>simp only[Ob.ren];exact .iter _ k sn b bm (ho.trans hb) (hι m bm hm) hbb
def mvG (o o2:Nat)(x:Nat):Nat:=if x=o then o2 else x
theorem Zh8 {S:St}(o o2:Nat)(h2:S.objs o2= .dead)(hne:o≠o2)(hpass:o2<1000\/2000<=o2):
  Ent S ⟨λ t=>(S.env t).ren (mvG o o2),λ x=>if x=o then .gone else if x=o2 then(S.objs o).ren (mvG o o2)else(S.objs x).ren (mvG o o2)⟩:=by
 rw[ZfN];intro B X w0 m a w ι hS;have hd:ι o2=none:=hS.dead h2
 let ι':Nat->Option Nat:=λ x=>if x=o2 then ι o else ι x
 have e1:∀x,x≠o2->ι' x=ι x:=λ x hx=>if_neg hx
 have e2:ι' o2=ι o:=if_pos rfl;have hι:∀x b,ι x=some b->ι' (mvG o o2 x)=some b:=λ x b hb=>by
  by_cases c:x=o
  ·subst c;rw[mvG,if_pos rfl,e2];exact hb
  ·rw[mvG,if_neg c,e1 x (λ h=>by rw[h,hd]at hb;cases hb)];exact hb
 have hX:∀b,ownX ι' X b->ownX ι X b:=by
  rintro b (hb|⟨x,hb⟩)
  ·exact .inl hb
  ·by_cases c:x=o2
   ·rw[c,e2]at hb;exact .inr ⟨o,hb⟩
   ·rw[e1 x c]at hb;exact .inr ⟨x,hb⟩
 have live:∀x,(if x=o then Ob.gone else if x=o2 then(S.objs o).ren (mvG o o2)else(S.objs x).ren (mvG o o2))≠ .gone->(x=o2/\S.objs o≠ .gone)\/(x≠o2/\x≠o/\S.objs x≠ .gone):=by
  intro x hx;by_cases c:x=o
  ·rw[if_pos c]at hx;exact absurd rfl hx
  ·rw[if_neg c]at hx;by_cases c2:x=o2
   ·rw[if_pos c2]at hx;exact .inl ⟨c2,λ h=>hx (by rw[h];rfl)⟩
   ·rw[if_neg c2]at hx;exact .inr ⟨c2,c,λ h=>hx (by rw[h];rfl)⟩
 refine⟨ι',hS.size,hS.defers,hS.frame,hS.hB,hS.hXB,λ x y b fx fy ex ey=>?_,λ x b e=>?_,λ t=>(hS.env t).rn hι hX,λ x=>?_,λ x b hb=>?_⟩
 ·rcases live x fx with⟨rfl,hx⟩|⟨hx1,hx2,hx⟩<;>rcases live y fy with⟨rfl,hy⟩|⟨hy1,hy2,hy⟩
  ·rfl
  ·rw[e2]at ex;rw[e1 y hy1]at ey;exact absurd (hS.inj o y b hx hy ex ey).symm hy2
  ·rw[e2]at ey;rw[e1 x hx1]at ex;exact absurd (hS.inj x o b hx hy ex ey) hx2
  ·rw[e1 x hx1]at ex;rw[e1 y hy1]at ey;exact hS.inj x y b hx hy ex ey
 ·by_cases c:x=o2
  ·rw[c,e2]at e;exact hS.free o b e
  ·rw[e1 x c]at e;exact hS.free x b e
 ·show Ob.At w ι' X x (if x=o then Ob.gone else if x=o2 then(S.objs o).ren (mvG o o2)else(S.objs x).ren (mvG o o2));by_cases c:x=o
  ·rw[if_pos c];exact .gone
  ·rw[if_neg c];by_cases c2:x=o2
   ·rw[if_pos c2,c2];exact(hS.objs o).rn hι hX e2
   ·rw[if_neg c2];exact(hS.objs x).rn hι hX (e1 x c2)
 ·obtain⟨g1,g2,g3⟩:=hS.stay x b hb;exact⟨g1,(e1 x (by omega)).trans g2,g3⟩
attribute [go_sem] mvG
theorem ZwF {P:Program}{B X:Nat->Prop}{w0:W0}{n:Nat}{c:Code}{Q:Exit->St->Prop}{S:St}:
  PW P B X w0 n c Q S↔∀a w ι,Hold B X (w0.of P) n S a w ι->c.wp P (λ e a' w'=>∃S' ι',Q e S'/\Hold B X (w0.of P) n S' a' w' ι') a w:=by
 delta PW;exact Iff.rfl
theorem ZwG {P:Program}{B X:Nat->Prop}{w0:W0}{n:Nat}{Q:Exit->St->Prop}{S:St}{id:Nat}(k:Nat)(_hid:Nat.blt id k=true)(own:Nat->Bool)(ZcC:P.follows .mixedOrders=true){ops:Array Oper}{draw:Bool}
  (h:Zab P own ops.toList ops.toList S [] λ S' fs=>Zhx n ops draw fs.reverse=true/\Q .normal S'):PW P B X w0 n (.region id ops draw) Q S:=Zf0 own ZcC h
theorem ZcQ {P:Program}{B X:Nat->Prop}{w0:W0}{n:Nat}{c:Code}{Q:Exit->St->Prop}{S:St}
  (h:PW P B X w0 n c (λ e S'=>∃S'',Ent S' S''/\Q e S'') S):PW P B X w0 n c Q S:=by
 rw[ZwF]at h|-;intro a w ι hS;refine wp_mono (h a w ι hS) ?_;rintro e a' w' ⟨S',ι',⟨S'',he,hq⟩,h2⟩;rw[ZfN]at he;obtain⟨ι'',h3⟩:=he B X (w0.of P) n a' w' ι' h2;exact⟨S'',ι'',hq,h3⟩
theorem Zbg {S:St}{L:List (Nat×PV)}{M:List (Nat×Ob)}:ZfE S L M↔Ent S ⟨Zbh L,Zam M⟩:=by
 delta ZfE;exact Iff.rfl
theorem Zjt {S:St}(o sz:Nat)(l:List D)(k:Nat)(h2:S.objs o= .row sz l):Ent S ⟨S.env,upd o (.row sz (l.take k)) S.objs⟩:=by
 rw[ZfN];intro B X w0 m a w ι hS;refine⟨ι,hS.size,hS.defers,hS.frame,hS.hB,hS.hXB,λ x y b fx fy ex ey=>?_,hS.free,hS.env,λ q=>?_,hS.stay⟩
 ·have live:∀x,upd o (.row sz (l.take k)) S.objs x≠ .gone->S.objs x≠ .gone:=by
   intro x hx;by_cases he:x=o
   ·rw[he,h2];simp
   ·simp only[upd,if_neg he]at hx;exact hx
  exact hS.inj x y b (live x fx) (live y fy) ex ey
 ·by_cases hq:q=o
  ·subst hq;simp only[upd,if_true];have:=hS.objs q;rw[h2]at this;cases this with
   |row0 _ h=>rw[Bh];exact .row0 _ h
   |row _ _ b c T hι hb hsz hcl hone h=>
    refine .row _ _ b c T hι hb ?_ (λ d hd=>hcl d (qR hd)) hone λ i d j e v hi hj hv=>?_
    ·refine gR (yF _ ?_) hsz;rw[uS];exact Nat.min_le_right _ _
    ·rw[qC]at hi;split at hi
     ·exact h i d j e v hi hj hv
     ·cases hi
  ·simp only[upd,if_neg hq];exact hS.objs q
theorem PV.At.cap {w:World}{ι:Nat->Option Nat}{X:Nat->Prop}{o sz off len cap cap':Nat}{v:Value}(h:PV.At w ι X (.ref o sz off len cap) v)(hc:cap'<=cap):PV.At w ι X (.ref o sz off len cap') v:=by
 cases h with
 |ref _ _ _ _ _ capr b hι hl hc0 hm hs=>exact .ref o sz off len cap' capr b hι hl (gR hc hc0) hm hs
 |ref0 _ _ _ base=>rw[Nat.le_zero.1 hc];exact .ref0 o sz off base
theorem Zjs {S:St}(q i o sz off len cap cap':Nat){cs:List PV}(h1:S.objs q= .cells cs)(hi:cs[i]? =some (.ref o sz off len cap))(hcap:cap'<=cap):
  Ent S ⟨S.env,upd q (.cells (cs.set i (.ref o sz off len cap'))) S.objs⟩:=by
 rw[ZfN];intro B X w0 m a w ι hS;refine⟨ι,hS.size,hS.defers,hS.frame,hS.hB,hS.hXB,λ x y b fx fy ex ey=>?_,hS.free,hS.env,λ p=>?_,hS.stay⟩
 ·have live:∀x,upd q (.cells (cs.set i (.ref o sz off len cap'))) S.objs x≠ .gone->S.objs x≠ .gone:=by
   intro x hx;by_cases he:x=q
   ·rw[he,h1];simp
   ·simp only[upd,if_neg he]at hx;exact hx
  exact hS.inj x y b (live x fx) (live y fy) ex ey
 ·by_cases hp:p=q
  ·subst hp;simp only[upd,if_true];have:=hS.objs p;rw[h1]at this;cases this with
   |cells _ b c T hι hb hsz hone h=>
    refine .cells _ b c T hι hb (by simpa using hsz) hone λ j x v hx hv=>?_
    rw[qD]at hx;split at hx
    ·rename_i hij;subst hij;split at hx
     ·cases hx;exact(h i _ v hi hv).cap hcap
     ·cases hx
    ·exact h j x v hx hv
  ·simp only[upd,if_neg hp];exact hS.objs p
theorem fmc {α:Type}{p:α->Prop}{a:α}{l:List α}(h:p a/\∀x,x∈l->p x):∀x,x∈a::l->p x:=uK.2 h
theorem fmn {α:Type}{p:α->Prop}:∀x,x∈([]:List α)->p x:=yA _
section step
variable {P:Program}{B X:Nat->Prop}{w0:W0}{n:Nat}{c:Code}{Q:Exit->St->Prop}{S:St}{G:Prop}
def Zpx (P:Program)(B X:Nat->Prop)(w0:W0)(n:Nat):Code->(Exit->St->Prop)->St->Option Prop
 | .seq x y,Q,S=>some (PW P B X w0 n x (ZhK (λ S'=>PW P B X w0 n y Q S') Q) S)
 | .skip,Q,S=>some (Q .normal S)
 | .exit id,Q,S=>some (Q (.exit id) S)
 | .block id c,Q,S=>some (PW P B X w0 n c (Zji id Q) S)
 |_,_,_=>none
theorem ZbD (h:Zpx P B X w0 n c Q S=some G)(hk:G):PW P B X w0 n c Q S:=by
 unfold Zpx at h;split at h<;>first|(injection h with h;subst h)|cases h
 ·exact ZwH hk
 ·exact ZwI hk
 ·exact ZwE hk
 ·exact ZwD hk
end step
theorem Zad {α:Type}{l:List α}{k:Nat}(h:k<l.length):∃x,l[k]? =some x:=⟨_,uL h⟩
theorem Zaj {a b:Bool}(h:a=b):some (D.sc (.bool a))=some (D.bool b):=by rw[h]
theorem Zah {a b:Int}(h:a=b):some (D.sc (.int .i64 a))=some (D.int b):=by rw[h]
theorem ZcS {a b:List D}(h:a=b):some (D.sl a)=some (D.sl b):=by rw[h]
theorem Zqr {sz:Nat}{a b:List D}(h:a=b):Ob.row sz a=Ob.row sz b:=by rw[h]
theorem Zbb {ds:List D}{l:List D}(i:Nat)(h:∃w X vs,Zgq w X ds vs)(hi:ds[i]? =some (.sl l)):l.length<=9223372036854775807:=by
 obtain⟨w,X,vs,h1,h2⟩:=h;have hlt:i<vs.size:=by have:=(uB.1 hi).1;omega
 have:=h2 i _ _ hi (uT hlt);generalize vs[i]=v at this;cases this with
 |slnil=>simp
 |sl _ b off cap sz hl hc=>simp only[maxLen]at hc;omega
theorem Zb3 {ds cs:List D}{l:List D}(i j:Nat)(h:∃w X vs,Zgq w X ds vs)(hi:ds[i]? =some (.ag cs))(hj:cs[j]? =some (.sl l)):l.length<=9223372036854775807:=by
 obtain⟨w,X,vs,h1,h2⟩:=h;have hlt:i<vs.size:=by have:=(uB.1 hi).1;omega
 have:=h2 i _ _ hi (uT hlt);generalize vs[i]=v at this;cases this with
 |ag _ arr hsz hone hat=>
  have hlt:j<arr.size:=by have:=(uB.1 hj).1;omega
  have:=hat j _ _ hj (uT hlt);generalize arr[j]=v at this;cases this with
  |slnil=>simp
  |sl _ b off cap sz hl hc=>simp only[maxLen]at hc;omega
theorem Zda {S:St}{t o sz len cap:Nat}{l l':List D}(h1:S.env t= .ref o sz 0 len cap)(h2:S.objs o= .row sz l')(h3:len<=l'.length)(h4:l'.take len=l):toD S.objs 4 (S.env t)=some (.sl l):=by
 rw[h1];simp only[toD,h2,qO,true_and,if_pos h3,qS,h4]
def Zbm {α:Type}(f:Nat->List α):Nat->List α
 |0=>[]
 |k+1=>Zbm f k++f k
def ZbL (p:Nat->Bool):Nat->Option Nat
 |0=>none
 |k+1=>match ZbL p k with|some i=>some i|none=>if p k then some k else none
theorem Zor {p:Nat->Bool}{n k:Nat}(hk:k<n)(h1:ZbL p k=none)(h2:p k=true):ZbL p n=some k:=by
 induction n with
 |zero=>omega
 |succ n ih=>
  rcases gA.1 hk with h|rfl
  ·simp[ZbL,ih h]
  ·simp[ZbL,h1,h2]
theorem Zos {p:Nat->Bool}{k:Nat}(h1:ZbL p k=none)(h2:p k=false):ZbL p (k+1)=none:=by simp[ZbL,h1,h2]
def Zdm (e:Nat->Int):Nat->Int
 |0=>0
 |k+1=>if Zdm e k=0 then e k else Zdm e k
theorem Zop {e:Nat->Int}{n k:Nat}{c:Int}(hk:k<n)(h1:Zdm e k=0)(h2:e k=c)(hc:c≠0):Zdm e n=c:=by
 induction n with
 |zero=>omega
 |succ n ih=>
  rcases gA.1 hk with h|rfl
  ·simp[Zdm,ih h,hc]
  ·simp[Zdm,h1,h2]
theorem Zoq {e:Nat->Int}{k:Nat}(h1:Zdm e k=0)(h2:e k=0):Zdm e (k+1)=0:=by simp[Zdm,h1,h2]
theorem ZdB {α:Type}{q:α->Bool}{l:List α}(h:∀(j:Nat) y,j<l.length->l[j]? =some y->q y=false):l.any q=false:=by
 rw[Ax];intro hq;obtain⟨x,hx,hx2⟩:=gO.1 hq;obtain⟨k,hk⟩:=yW hx;rw[h k x (uB.1 hk).1 hk]at hx2;cases hx2
theorem ZcZ {α:Type}{q:α->Bool}{l:List α}{k:Nat}{x:α}(h:l[k]? =some x)(hq:q x=true):l.any q=true:=gO.2 ⟨x,uA h,hq⟩
theorem Zgm {α:Type}{l m:List α}{k:Nat}{x y:α}(h1:l[k]? =some x)(h2:m[k]? =some y)(h:x≠y):l≠m:=by
 rintro rfl;rw[h1]at h2;cases h2;exact h rfl
theorem Zer {α:Type}{q:α->Bool}:∀{l:List α} {k:Nat} {x:α},l[k]? =some x->q x=true->(∀j y,j<k->l[j]? =some y->q y=false)->l.findIdx? q=some k
 |[],k,x,h,_,_=>by simp at h
 |a::l,0,x,h,hq,_=>by simp at h;subst h;simp[jF,hq]
 |a::l,k+1,x,h,hq,hn=>by
  have h0:q a=false:=hn 0 a (by omega) rfl;have:=Zer (l:=l) (k:=k) (x:=x) (by simpa using h) hq (λ j y hj hy=>hn (j+1) y (by omega) (by simpa using hy));simp[jF,h0,this]
theorem ZeS {α:Type}{q:α->Bool}:∀{l:List α},(∀(j:Nat) y,l[j]? =some y->q y=false)->l.findIdx? q=none
 |[],_=>rfl
 |a::l,hn=>by
  have h0:q a=false:=hn 0 a rfl;have:=ZeS (l:=l) (λ j y hy=>hn (j+1) y (by simpa using hy));simp[jF,h0,this]
def ZcD :Option Nat->Int
 |some i=>i
 |none=>-1
theorem ZgI {α:Type}(q:α->Bool)(l:List α):decide (0<=ZcD (l.findIdx? q))=l.any q:=by
 induction l with
 |nil=>rfl
 |cons a l ih=>
  rw[jF,List.any_cons,<-ih];cases hq:q a with
  |true=>simp[ZcD]
  |false=>
   cases hf:l.findIdx? q with
   |none=>simp[ZcD]
   |some i=>simp only[qB,jE,yV,ZcD,Bool.false_or];congr 1;apply propext;omega
theorem ZbI {α:Type}{l:List α}{P:α->Prop}{k:Nat}{x:α}(h:∀(j:Nat) y,j<k->l[j]? =some y->P y)(hx:l[k]? =some x)(hp:P x):∀(j:Nat) y,j<k+1->l[j]? =some y->P y:=by
 intro j y hj hy;rcases gA.1 hj with h1|h1
 ·exact h j y h1 hy
 ·rw[h1,hx]at hy;cases hy;exact hp
theorem ZaD {α:Type}{l:List α}{k:Nat}{x:α}(h:l[k]? =some x):l.take (k+1)=l.take k++[x]:=by
 rw[List.take_add_one,h];rfl
theorem ZtZ (l:List Int):∀d,d∈l.map D.int->∀c,c∈d.cells->c.flat 4=true:=by
 intro d hd c hc;obtain⟨p,_,rfl⟩:=uN.1 hd;simp only[D.cells,uR]at hc;subst hc;rfl
theorem Zjm {α:Type}(f:α->D)(n:Nat)(hf:∀a,(f a).cells.length=n)(l:List α):∀d,d∈l.map f->d.cells.length=n:=by
 intro d hd;obtain⟨p,_,rfl⟩:=uN.1 hd;exact hf p
theorem Zt0 {α:Type}(f:α->D)(hf:∀a,((f a).cells.all (D.flat 4))=true)(l:List α):∀d,d∈l.map f->∀c,c∈d.cells->c.flat 4=true:=by
 intro d hd c hc;obtain⟨p,_,rfl⟩:=uN.1 hd;have:=hf p;simp only[uW]at this;exact this c hc
theorem Zat {α β:Type}(f:α->β)(l:List α):(l.map f).take l.length=l.map f:=by
 rw[<-uE (f:=f)];exact yI
theorem hcL :(∀(p:Prop) [Decidable p],(decide p=true)=p)/\(∀(p:Prop) [Decidable p],(decide p=false)=¬p)/\(∀b:Bool,((!b)=true)=(b=false))/\(∀b:Bool,((!b)=false)=(b=true))/\
  (∀a b:Bool,((a&&b)=true)=(a=true/\b=true))/\(∀a b:Bool,((a||b)=true)=(a=true\/b=true))/\(false=true)=False/\(true=false)=False/\(∀p q:Prop,(¬(p/\q))=(p->¬q))/\(∀p q:Prop,(¬(p\/q))=(¬p/\¬q)):=by
 refine⟨?_,?_,?_,?_,?_,?_,?_,?_,?_,?_⟩<;>simp
theorem inL :(∀a b:D,(PV.d a=PV.d b)=(a=b))/\(∀o z f l c o' z' f' l' c':Nat,(PV.ref o z f l c=PV.ref o' z' f' l' c')=(o=o'/\z=z'/\f=f'/\l=l'/\c=c'))/\(∀a b:Value,(D.sc a=D.sc b)=(a=b))/\
  (∀(k k':IntKind) (a b:Int),(Value.int k a=Value.int k' b)=(k=k'/\a=b))/\(∀a b:Bool,(Value.bool a=Value.bool b)=(a=b))/\(∀(n m:Nat) (a b:List D),(Ob.row n a=Ob.row m b)=(n=m/\a=b))/\(∀p:Prop,(True/\p)=p)/\(∀p:Prop,(p/\True)=p):=by
 refine⟨?_,?_,?_,?_,?_,?_,?_,?_⟩<;>simp
section short
variable {P:Program}{own:Nat->Bool}{all rest:List Oper}{S:St}{fs:List Za9}{K:St->List Za9->Prop}{dst:Option Nat}{ty:TypeId}{pos:String}{af:Array Edge}{f:Operand}{as:Array Operand}{tys:Array TypeId}
theorem rc {g:FuncId}{ds:List D}{r:D}(hc:Zaa P g ds r)(hf:S.ev f= .d (.fn g []))(hx:(as.toList.map S.ev).mapM (toD S.objs 4)=some ds)
  (hk:Zab P own all rest (S.put dst (.d r)) (((as.toList.map S.ev).flatMap (PV.refs S.objs 4),[])::fs) K)(hr:(as.toList.map S.ev).flatMap (PV.refs S.objs 4)=[]\/r.flat 4=true:=by first|exact .inl rfl|exact .inr rfl):
  Zab P own all (⟨dst, .call ⟨.value f,as,tys⟩,ty,pos,af,none⟩::rest) S fs K:=Zxy hc hf hx hr hk
theorem rcM (σ:List (Nat×Nat)){h:FuncId}{caps args:List PV}{M M':List (Nat×Ob)}{r:PV}(hc:Zaf P h args M r M')(hf:ZfI (S.ev f)=some (h,caps))
  (hk:Zab P own all rest (S.app dst ⟨r.ren (gOf σ),Zb8 (gOf σ) M',(as.toList.map S.ev++caps).flatMap (PV.refs S.objs 4)⟩) (((as.toList.map S.ev++caps).flatMap (PV.refs S.objs 4),(Zb8 (gOf σ) M').map (·.1))::fs) K)
  (hids:M'.map (·.1)=M.map (·.1):=by rfl) (hao:(args.all (PV.only (M.map (·.1)) 4))=true:=by rfl) (hMo:(M.all λ q=>q.2.only (M.map (·.1)))=true:=by rfl)
  (hro:r.only (M.map (·.1)) 4=true:=by rfl) (hMo':(M'.all λ q=>q.2.only (M.map (·.1)))=true:=by rfl) (hnd:(M.map λ q=>gOf σ q.1).Nodup:=by exact ZbH rfl)
  (hng:∀q∈M,q.2≠ .gone/\(2000<=q.1->q.2= .dead):=by(repeat' first|exact yA _|refine uK.2 ⟨⟨nofun,λ h=>by first|rfl|(simp at h;done)⟩,?_⟩)<;>fail)
  (hx:Zek S.objs (gOf σ) False (as.toList.map S.ev++caps) args:=by(repeat' first|exact trivial|refine⟨.inl rfl,?_⟩|refine⟨.inr ⟨_,rfl,rfl, .inl rfl⟩,?_⟩)<;>fail)
  (hobs:∀q∈M,S.objs (gOf σ q.1)=q.2.ren (gOf σ):=by(repeat' first|exact yA _|refine uK.2 ⟨rfl,?_⟩)<;>fail):
  Zab P own all (⟨dst, .call ⟨.value f,as,tys⟩,ty,pos,af,none⟩::rest) S fs K:=
 Zqv σ hc hf hids hao hMo hro hMo' hnd hng hx hobs hk
theorem eL (σ:List (Nat×Nat))(L:List (Nat×PV))(M:List (Nat×Ob))(h:(∀p∈L,S.env p.1=p.2.ren (gOf σ))/\∀q∈M,S.objs (gOf σ q.1)=q.2.ren (gOf σ))
  (h3:(L.all λ p=>p.2.only (M.map (·.1)) 4)=true:=by rfl) (h4:(M.all λ q=>q.2.only (M.map (·.1)))=true:=by rfl) (h5:(M.map λ q=>gOf σ q.1).Nodup:=by exact ZbH rfl)
  (h6:(M.all λ q=>((decide (q.1<1000)||decide (2000<=q.1))&&(decide (gOf σ q.1<1000)||decide (2000<=gOf σ q.1)))||decide (gOf σ q.1=q.1))=true:=by rfl)
  (h7:ZbJ (M.map (·.1)) S.objs:=by(repeat' first|exact Zfs _ rfl|exact Zfr|refine Zft rfl ?_|refine ZgT ?_)):ZfE S L M:=Zod σ L M h.1 h.2 h3 h4 h5 h6 h7
theorem eR {B X:Nat->Prop}{w0:W0}{n:Nat}{c:Code}{Q:Exit->St->Prop}(σ:List (Nat×Nat))(L:List (Nat×PV))(M:List (Nat×Ob))(h:(∀p∈L,S.env p.1=p.2.ren (gOf σ))/\∀q∈M,S.objs (gOf σ q.1)=q.2.ren (gOf σ))
  (hk:PW P B X w0 n c Q ⟨Zbh L,Zam M⟩)
  (h3:(L.all λ p=>p.2.only (M.map (·.1)) 4)=true:=by rfl) (h4:(M.all λ q=>q.2.only (M.map (·.1)))=true:=by rfl) (h5:(M.map λ q=>gOf σ q.1).Nodup:=by exact ZbH rfl)
  (h6:(M.all λ q=>((decide (q.1<1000)||decide (2000<=q.1))&&(decide (gOf σ q.1<1000)||decide (2000<=gOf σ q.1)))||decide (gOf σ q.1=q.1))=true:=by rfl)
  (h7:ZbJ (M.map (·.1)) S.objs:=by(repeat' first|exact Zfs _ rfl|exact Zfr|refine Zft rfl ?_|refine ZgT ?_)):PW P B X w0 n c Q S:=Zau _ (Zla σ L M h.1 h.2 h3 h4 h5 h6 h7) hk
theorem eF (σf σ:List (Nat×Nat))(L:List (Nat×PV))(Fs:List Fam)(M:List (Nat×Ob))
  (h:(∀p∈L,S.env p.1=p.2.ren (gOf σ))/\∀q∈M,S.objs (gOf σ q.1)=q.2.ren (gOf σ))
  (hF:∀f∈Fs,∃r,S.objs (gOf σ f.o)= .cells (ZaR f.n r)/\∀i,i<f.n->r i= .ref (gOf σf (fid f.j i)) f.sz 0 (f.rows i).length (f.rows i).length/\S.objs (gOf σf (fid f.j i))= .row f.sz (f.rows i))
  (hn:∀f∈Fs,1<=f.j/\f.o<1125899906842624/\f.n<=1125899906842624:=by(repeat' first|exact yA _|refine uK.2 ⟨⟨uU rfl,uU rfl,by dsimp only;omega⟩,?_⟩);done)
  (c1:(L.all λ p=>p.2.only (Fs.map (·.o)++M.map (·.1)) 4)=true:=by rfl) (c2:(M.all λ q=>q.2.only (Fs.map (·.o)++M.map (·.1)))=true:=by rfl)
  (c3:((Fs.map (·.o)++M.map (·.1)).map (gOf σ)++σf.map (·.2)).Nodup:=by exact ZbH rfl) (c4:(Fs.map (·.j)).Nodup:=by exact ZbH rfl)
  (c5:((Fs.map (·.o)++M.map (·.1)).all λ i=>(((decide (i<1000)||decide (2000<=i))&&(decide (gOf σ i<1000)||decide (2000<=gOf σ i)))||decide (gOf σ i=i))&&decide (i<1125899906842624)&&decide (gOf σ i<1125899906842624))=true:=by rfl)
  (c6:(σf.all λ p=>(decide (p.2<1000)||decide (2000<=p.2))&&decide (p.2<1125899906842624))=true:=by rfl)
  (c7:ZbJ (Fs.map (·.o)++M.map (·.1)) S.objs:=by(repeat' first|refine Zl1 rfl rfl ?_|refine Zl3 ?_|refine Zl2 rfl ?_|refine Zft rfl ?_|refine ZgT ?_|exact Zfs _ rfl|exact Zfr);done):ZfD S L Fs M:=
 Zk9 σf σ L Fs M h.1 h.2 hF hn c1 c2 c3 c4 c5 c6 c7
end short
attribute [go_sem] ZdC Zbh Zam ZfG gOf Nat.beq_eq qY qO uH jI gH ZmS ZhK Zji forall_eq forall_eq_or_imp
section
variable {P:Program}{own:Nat->Bool}{all rest:List Oper}{S:St}{fs:List Za9}{K:St->List Za9->Prop}{dst:Option Nat}{ty:TypeId}{pos:String}{af:Array Edge}{f:Operand}{as:Array Operand}{tys:Array TypeId}
end
end Go.PS
