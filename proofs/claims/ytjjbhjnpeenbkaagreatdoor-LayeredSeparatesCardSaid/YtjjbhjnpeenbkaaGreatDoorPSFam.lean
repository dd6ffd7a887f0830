/- Own rows of own rows: a family of objects Zcu numbers of its own. -/
import Derived.Test.YtjjbhjnpeenbkaaGreatDoorPSCode
set_option linter.unusedSimpArgs false
set_option linter.unusedVariables false
set_option maxHeartbeats 16000000
namespace Go.PS
open Go
def fid (j i:Nat):Nat:=1125899906842624*j+i
structure Fam where
 j:Nat
 o:Nat
 sz:Nat
 n:Nat
 rows:Nat->List D
def Za4 (n:Nat)(r:Nat->PV):List PV:=(List.range n).map r
def Fam.ref (f:Fam)(i:Nat):PV:= .ref (fid f.j i) f.sz 0 (f.rows i).length (f.rows i).length
def Zau :List Fam->(Nat->Ob)->Nat->Ob
 |[],base=>base
 |f::fs,base=>λ x=>if x=f.o then .cells (Za4 f.n f.ref)else if fid f.j 0<=x/\x<fid f.j f.n then .row f.sz (f.rows (x-fid f.j 0))else Zau fs base x
theorem Zkw {n:Nat}{r:Nat->PV}{i:Nat}(h:i<n):(Za4 n r)[i]? =some (r i):=by simp[Za4,h]
theorem ZCv {n:Nat}{r:Nat->PV}{i:Nat}{p:PV}(h:(Za4 n r)[i]? =some p):i<n/\p=r i:=by
 by_cases hi:i<n
 ·rw[Zkw hi]at h;cases h;exact⟨hi,rfl⟩
 ·rw[uN (by simp[Za4];omega)]at h;cases h
inductive PV.In (dom:Nat->Prop):PV->Prop
 |d (x:D):PV.In dom (.d x)
 |ref (o sz off len cap:Nat) (h:dom o):PV.In dom (.ref o sz off len cap)
 |ptr (o sz i c:Nat) (h:dom o):PV.In dom (.ptr o sz i c)
 |nilS:PV.In dom .nilS
 |z0:PV.In dom .z0
 |ag (cs:List PV) (h:∀c,c∈cs->PV.In dom c):PV.In dom (.ag cs)
 |tup (cs:List PV) (h:∀c,c∈cs->PV.In dom c):PV.In dom (.tup cs)
 |fn (f:FuncId) (cs:List PV) (h:∀c,c∈cs->PV.In dom c):PV.In dom (.fn f cs)
 |unk:PV.In dom .unk
 |und:PV.In dom .und
 |ab:PV.In dom .ab
 |mp (o:Nat) (h:dom o):PV.In dom (.mp o)
 |ifp (T o:Nat) (h:dom o):PV.In dom (.ifp T o)
inductive Ob.In (dom:Nat->Prop):Ob->Prop
 |dead:Ob.In dom .dead
 |gone:Ob.In dom .gone
 |row (sz:Nat) (l:List D):Ob.In dom (.row sz l)
 |imap (l:List (Int×Int)):Ob.In dom (.imap l)
 |iter (m k:Nat) (sn:List Nat) (h:dom m):Ob.In dom (.iter m k sn)
 |cells (cs:List PV) (h:∀c,c∈cs->PV.In dom c):Ob.In dom (.cells cs)
theorem PV.In.mono {dom dom':Nat->Prop}{p:PV}(h:PV.In dom p)(hd:∀o,dom o->dom' o):PV.In dom' p:=by
 induction h with
 |d x=>exact .d x
 |ref o sz off len cap h=>exact .ref _ _ _ _ _ (hd o h)
 |ptr o sz i c h=>exact .ptr _ _ _ _ (hd o h)
 |nilS=>exact .nilS
 |z0=>exact .z0
 |ag cs _ ih=>exact .ag cs ih
 |tup cs _ ih=>exact .tup cs ih
 |fn f cs _ ih=>exact .fn f cs ih
 |unk=>exact .unk
 |und=>exact .und
 |ab=>exact .ab
 |mp o h=>exact .mp o (hd o h)
 |ifp T o h=>exact .ifp T o (hd o h)
theorem Ob.In.mono {dom dom':Nat->Prop}{p:Ob}(h:Ob.In dom p)(hd:∀o,dom o->dom' o):Ob.In dom' p:=by
 cases h with
 |dead=>exact .dead
 |gone=>exact .gone
 |row sz l=>exact .row sz l
 |imap l=>exact .imap l
 |iter m k sn h=>exact .iter m k sn (hd m h)
 |cells cs h=>exact .cells cs λ c hc=>(h c hc).mono hd
theorem ZlT {L:List Nat}:∀(k:Nat) (p:PV),p.only L k=true->PV.In (·∈L) p:=by
 intro k
 induction k with
 |zero=>intro p h;simp[PV.only]at h
 |succ k ih=>
  intro p h;cases p with
  |d x=>exact .d x
  |ref o sz off len cap=>simp only[PV.only,yQ,uF]at h;exact .ref _ _ _ _ _ h
  |ptr o sz i c=>simp only[PV.only,yQ,uF]at h;exact .ptr _ _ _ _ h
  |nilS=>exact .nilS
  |z0=>exact .z0
  |unk=>exact .unk
  |und=>exact .und
  |ab=>exact .ab
  |mp o=>simp only[PV.only,yQ,uF]at h;exact .mp _ h
  |ifp T o=>simp only[PV.only,yQ,uF]at h;exact .ifp _ _ h
  |ag cs=>simp only[PV.only,uX]at h;exact .ag cs λ c hc=>ih c (h c hc)
  |tup cs=>simp only[PV.only,uX]at h;exact .tup cs λ c hc=>ih c (h c hc)
  |fn f cs=>simp only[PV.only,uX]at h;exact .fn f cs λ c hc=>ih c (h c hc)
theorem Zon {L:List Nat}{ob:Ob}(h:ob.only L=true):Ob.In (·∈L) ob:=by
 cases ob with
 |dead=>exact .dead
 |gone=>exact .gone
 |row sz l=>exact .row sz l
 |imap l=>exact .imap l
 |iter m k sn=>simp only[Ob.only,yQ,uF]at h;exact .iter m k sn h
 |cells cs=>simp only[Ob.only,uX]at h;exact .cells cs λ c hc=>ZlT 4 c (h c hc)
theorem Zua {dom:Nat->Prop}{g g':Nat->Nat}{p:PV}(h:PV.In dom p)(hg:∀o,dom o->g o=g' o):p.ren g=p.ren g':=by
 induction h with
 |ref o sz off len cap h=>simp only[PV.ren,hg o h]
 |ptr o sz i c h=>simp only[PV.ren,hg o h]
 |mp o h=>simp only[PV.ren,hg o h]
 |ifp T o h=>simp only[PV.ren,hg o h]
 |ag cs _ ih=>simp only[PV.ren,PV.renL_eq];rw[yM ih]
 |tup cs _ ih=>simp only[PV.ren,PV.renL_eq];rw[yM ih]
 |fn f cs _ ih=>simp only[PV.ren,PV.renL_eq];rw[yM ih]
 |_=>simp only[PV.ren]
theorem ZCE {dom:Nat->Prop}{g g':Nat->Nat}{p:Ob}(h:Ob.In dom p)(hg:∀o,dom o->g o=g' o):p.ren g=p.ren g':=by
 cases h with
 |cells cs h=>simp only[Ob.ren];rw[yM λ c hc=>Zua (h c hc) hg]
 |iter m k sn h=>simp only[Ob.ren,hg m h]
 |_=>simp only[Ob.ren]
theorem Zl7 {dom:Nat->Prop}{g:Nat->Nat}{p:PV}(h:PV.In dom p)(hg:∀o,dom o->g o=o):p.ren g=p:=by
 induction h with
 |ref o sz off len cap h=>simp only[PV.ren,hg o h]
 |ptr o sz i c h=>simp only[PV.ren,hg o h]
 |mp o h=>simp only[PV.ren,hg o h]
 |ifp T o h=>simp only[PV.ren,hg o h]
 |ag cs _ ih=>simp only[PV.ren,PV.renL_eq];rw[yM ih,List.map_id']
 |tup cs _ ih=>simp only[PV.ren,PV.renL_eq];rw[yM ih,List.map_id']
 |fn f cs _ ih=>simp only[PV.ren,PV.renL_eq];rw[yM ih,List.map_id']
 |_=>simp only[PV.ren]
theorem Zt8 {dom:Nat->Prop}{g:Nat->Nat}{p:Ob}(h:Ob.In dom p)(hg:∀o,dom o->g o=o):p.ren g=p:=by
 cases h with
 |cells cs h=>simp only[Ob.ren];rw[yM λ c hc=>Zl7 (h c hc) hg,List.map_id']
 |iter m k sn h=>simp only[Ob.ren,hg m h]
 |_=>simp only[Ob.ren]
theorem Zmv {w:World}{ι ιc:Nat->Option Nat}{X:Nat->Prop}{g:Nat->Nat}{dom:Nat->Prop}(hι:∀i,dom i->ιc i=ι (g i))(hX:∀b,ownX ιc X b->ownX ι X b){p:PV}(h:PV.In dom p):
  ∀v,PV.At w ι X (p.ren g) v->PV.At w ιc X p v:=by
 induction h with
 |d x=>intro v hp;simp only[PV.ren]at hp;cases hp with|d _ _ h=>exact .d _ _ (h.sub hX)
 |ref o sz off len cap h=>
  intro v hp;simp only[PV.ren]at hp;cases hp with
  |ref _ _ _ _ _ capr b hb hl hc hm hs=>exact .ref o sz off len cap capr b ((hι o h).trans hb) hl hc hm hs
  |ref0 _ _ _ base=>exact .ref0 _ _ _ base
 |ptr o sz i c h=>intro v hp;simp only[PV.ren]at hp;cases hp with|ptr _ _ _ _ b hb=>exact .ptr o sz i c b ((hι o h).trans hb)
 |nilS=>intro v hp;simp only[PV.ren]at hp;cases hp;exact .nilS
 |z0=>intro v hp;simp only[PV.ren]at hp;cases hp;exact .z0 _
 |unk=>intro v _;exact .unk _
 |und=>intro v hp;simp only[PV.ren]at hp;cases hp;exact .und
 |ab=>intro v hp;simp only[PV.ren]at hp;cases hp;exact .ab _
 |mp o h=>intro v hp;simp only[PV.ren]at hp;cases hp with|mp _ b hb=>exact .mp o b ((hι o h).trans hb)
 |ifp T o h=>intro v hp;simp only[PV.ren]at hp;cases hp with|ifp _ _ b hb=>exact .ifp T o b ((hι o h).trans hb)
 |ag cs _ ih=>
  intro v hp;simp only[PV.ren,PV.renL_eq]at hp;cases hp with|ag _ arr hsz hone hat=>exact .ag cs arr (by simpa using hsz) hone λ j p v hj hv=>ih p (uA hj) v (hat j _ v (by rw[uI,hj];rfl) hv)
 |tup cs _ ih=>
  intro v hp;simp only[PV.ren,PV.renL_eq]at hp;cases hp with|tup _ arr hsz hat=>exact .tup cs arr (by simpa using hsz) λ j p v hj hv=>ih p (uA hj) v (hat j _ v (by rw[uI,hj];rfl) hv)
 |fn f cs _ ih=>
  intro v hp;simp only[PV.ren,PV.renL_eq]at hp;cases hp with|fn _ _ arr hsz hat=>exact .fn f cs arr (by simpa using hsz) λ j p v hj hv=>ih p (uA hj) v (hat j _ v (by rw[uI,hj];rfl) hv)
theorem ZpG {w:World}{ι ιc:Nat->Option Nat}{X:Nat->Prop}{g:Nat->Nat}{dom:Nat->Prop}(hι:∀i,dom i->ιc i=ι (g i))(hX:∀b,ownX ιc X b->ownX ι X b){o:Nat}{ob:Ob}(ho:dom o)(h:Ob.In dom ob)
  (hp:Ob.At w ι X (g o) (ob.ren g)):Ob.At w ιc X o ob:=by
 cases h with
 |gone=>exact .gone
 |dead=>simp only[Ob.ren]at hp;cases hp with|dead h=>exact .dead ((hι o ho).trans h)
 |cells cs h=>
  simp only[Ob.ren]at hp;cases hp with
  |cells _ b c T hb hbb hsz hone hat=>
   exact .cells cs b c T ((hι o ho).trans hb) hbb (by simpa using hsz) hone λ j p v hj hv=>Zmv hι hX (h p (uA hj)) v (hat j _ v (by rw[uI,hj];rfl) hv)
 |row sz l=>
  simp only[Ob.ren]at hp;cases hp with
  |row0 _ h=>exact .row0 sz ((hι o ho).trans h)
  |row _ _ b c T hb hbb hsz hcl hone hat=>exact .row sz l b c T ((hι o ho).trans hb) hbb hsz hcl hone λ i d j e v hi hj hv=>(hat i d j e v hi hj hv).sub hX
 |imap l=>
  simp only[Ob.ren]at hp;cases hp with
  |imap _ b es clock hb hbb he=>exact .imap l b es clock ((hι o ho).trans hb) hbb he
 |iter m k sn hm0=>
  simp only[Ob.ren]at hp;cases hp with
  |iter _ _ _ b bm hb hm hbb=>exact .iter m k sn b bm ((hι o ho).trans hb) ((hι m hm0).trans hm) hbb
theorem Zq9 {S S':St}(g:Nat->Nat)(dom:Nat->Prop)(h1:∀t,S'.env t= .unk\/(S.env t=(S'.env t).ren g/\(S'.env t).In dom))(h2:∀o,dom o->S.objs (g o)=(S'.objs o).ren g/\(S'.objs o).In dom)
  (h3:∀o,¬dom o->S'.objs o= .dead)(h5:∀i,dom i->∀j,dom j->g i=g j->i=j)(h6:∀o,dom o->((o<1000\/2000<=o)/\(g o<1000\/2000<=g o))\/g o=o)
  (h7:∀o,1000<=o->o<2000->¬dom o->S.objs o= .dead):Ent S S':=by
 rw[Zg0];intro B X w0 n a w ι hS;have dec:=λ o=>Classical.propDecidable (dom o)
 let ι':Nat->Option Nat:=λ o=>if dom o then ι (g o)else none
 have hκ:∀o,dom o->ι' o=ι (g o):=λ o ho=>if_pos ho
 have sub:∀o b,ι' o=some b->dom o/\ι (g o)=some b:=by
  intro o b h;by_cases ho:dom o
  ·rw[hκ o ho]at h;exact⟨ho,h⟩
  ·simp only[ι',if_neg ho]at h;cases h
 have subX:∀b,ownX ι' X b->ownX ι X b:=by
  rintro b (hb|⟨o,hb⟩)
  ·exact .inl hb
  ·exact .inr ⟨_,(sub o b hb).2⟩
 have live:∀o,dom o->S'.objs o≠ .gone->S.objs (g o)≠ .gone:=by
  intro o ho hg;rw[(h2 o ho).1];exact λ he=>hg (Zkx.1 he)
 refine⟨ι',hS.size,hS.defers,hS.frame,hS.hB,hS.hXB,λ o o' b f f' e e'=>?_,λ o b e=>hS.free _ b (sub o b e).2,λ t=>?_,λ o=>?_,λ o b hb=>?_⟩
 ·obtain⟨g1,g2⟩:=sub o b e;obtain⟨g3,g4⟩:=sub o' b e';exact h5 o g1 o' g3 (hS.inj _ _ b (live o g1 f) (live o' g3 f') g2 g4)
 ·rcases h1 t with h|⟨h,hin⟩
  ·rw[h];exact .unk _
  ·have:=hS.env t;rw[h]at this;exact Zmv hκ subX hin _ this
 ·by_cases ho:dom o
  ·have hh:=hS.objs (g o);rw[(h2 o ho).1]at hh;exact ZpG hκ subX ho (h2 o ho).2 hh
  ·rw[h3 o ho];exact .dead (if_neg ho)
 ·obtain⟨g1,g2,g3⟩:=hS.stay o b hb;refine⟨g1,?_,g3⟩;by_cases ho:dom o
  ·rw[hκ o ho];rcases h6 o ho with h|h
   ·omega
   ·rw[h];exact g2
  ·have:=hS.dead (h7 o g1.1 g1.2 ho);rw[this]at g2;cases g2
theorem Zlx (σ:List (Nat×Nat))(x:Nat):gOf σ x=x\/∃p,p∈σ/\p.1=x/\gOf σ x=p.2:=by
 induction σ with
 |nil=>exact .inl rfl
 |cons p σ ih=>
  obtain⟨a,b⟩:=p;by_cases h:x=a
  ·subst h;exact .inr ⟨(x,b),by simp,rfl,if_pos rfl⟩
  ·have he:gOf ((a,b)::σ) x=gOf σ x:=if_neg h;rcases ih with h1|⟨p,h1,h2,h3⟩
   ·exact .inl (he.trans h1)
   ·exact .inr ⟨p,uO _ h1,h2,he.trans h3⟩
def ZhG (Fs:List Fam):Prop:=(Fs.map (·.j)).Nodup/\(Fs.map (·.o)).Nodup/\∀f,f∈Fs->1<=f.j/\f.o<1125899906842624/\f.n<=1125899906842624
theorem ZhG.tail {f:Fam}{Fs:List Fam}(h:ZhG (f::Fs)):ZhG Fs:=by
 obtain⟨h1,h2,h3⟩:=h;simp only[uT,yW]at h1 h2;exact⟨h1.2,h2.2,λ g hg=>h3 g (uO _ hg)⟩
theorem Znz {j j' i i':Nat}(h:fid j i=fid j' i')(h1:i<1125899906842624)(h2:i'<1125899906842624):j=j'/\i=i':=by
 simp only[fid]at h;omega
theorem Zoj {base:Nat->Ob}:∀{Fs:List Fam} {f:Fam},ZhG Fs->f∈Fs->Zau Fs base f.o= .cells (Za4 f.n f.ref)
 |[],f,_,h=>by cases h
 |g::Fs,f,ha,h=>by
  simp only[Zau];rcases yF.1 h with rfl|h'
  ·rw[if_pos rfl]
  ·have hne:f.o≠g.o:=by
    intro he;have:=ha.2.1;simp only[uT,yW]at this;exact this.1 (uP.2 ⟨f,h',he⟩)
   have h1:=ha.2.2 f h;have h2:=ha.2.2 g (by simp);rw[if_neg hne,if_neg (by simp only[fid];omega)];exact Zoj ha.tail h'
theorem Zoi {base:Nat->Ob}:∀{Fs:List Fam} {f:Fam} {i:Nat},ZhG Fs->f∈Fs->i<f.n->Zau Fs base (fid f.j i)= .row f.sz (f.rows i)
 |[],f,_,_,h,_=>by cases h
 |g::Fs,f,i,ha,h,hi=>by
  simp only[Zau];have h1:=ha.2.2 f h;have h2:=ha.2.2 g (by simp);rw[if_neg (by simp only[fid];omega)];rcases yF.1 h with rfl|h'
  ·rw[if_pos (by simp only[fid];omega)]
   congr 2;simp only[fid];omega
  ·have hne:f.j≠g.j:=by
    intro he;have:=ha.1;simp only[uT,yW]at this;exact this.1 (uP.2 ⟨f,h',he⟩)
   rw[if_neg (by simp only[fid];omega)];exact Zoi ha.tail h' hi
theorem Zi9 {base:Nat->Ob}:∀{Fs:List Fam} {x:Nat},(∀f,f∈Fs->x≠f.o/\∀i,i<f.n->x≠fid f.j i)->Zau Fs base x=base x
 |[],_,_=>rfl
 |g::Fs,x,h=>by
  simp only[Zau];have h1:=h g (by simp);rw[if_neg h1.1,if_neg (λ hx=>h1.2 (x-fid g.j 0) (by simp only[fid]at*;omega) (by simp only[fid]at*;omega))];exact Zi9 λ f hf=>h f (uO _ hf)
def ZgP (S:St)(L:List (Nat×PV))(Fs:List Fam)(M:List (Nat×Ob)):Prop:=Ent S ⟨Zbz L,Zau Fs (Zap M)⟩
theorem Znt {S:St}(σf σ:List (Nat×Nat))(L:List (Nat×PV))(Fs:List Fam)(M:List (Nat×Ob))
  (hL:∀p∈L,S.env p.1=p.2.ren (gOf σ))(hM:∀q∈M,S.objs (gOf σ q.1)=q.2.ren (gOf σ))
  (hF:∀f∈Fs,∃r,S.objs (gOf σ f.o)= .cells (Za4 f.n r)/\∀i,i<f.n->r i= .ref (gOf σf (fid f.j i)) f.sz 0 (f.rows i).length (f.rows i).length/\S.objs (gOf σf (fid f.j i))= .row f.sz (f.rows i))
  (hn:∀f∈Fs,1<=f.j/\f.o<1125899906842624/\f.n<=1125899906842624)
  (c1:(L.all λ p=>p.2.only (Fs.map (·.o)++M.map (·.1)) 4)=true)(c2:(M.all λ q=>q.2.only (Fs.map (·.o)++M.map (·.1)))=true)
  (c3:((Fs.map (·.o)++M.map (·.1)).map (gOf σ)++σf.map (·.2)).Nodup)(c4:(Fs.map (·.j)).Nodup)
  (c5:((Fs.map (·.o)++M.map (·.1)).all λ i=>(((decide (i<1000)||decide (2000<=i))&&(decide (gOf σ i<1000)||decide (2000<=gOf σ i)))||decide (gOf σ i=i))&&decide (i<1125899906842624)&&decide (gOf σ i<1125899906842624))=true)
  (c6:(σf.all λ p=>(decide (p.2<1000)||decide (2000<=p.2))&&decide (p.2<1125899906842624))=true)
  (c7:Zb5 (Fs.map (·.o)++M.map (·.1)) S.objs):ZgP S L Fs M:=by
 generalize hids:Fs.map (·.o)++M.map (·.1)=ids at*;simp only[uX,uL,qZ,uF]at c1 c2 c5 c6;have hpair:=gE.1 c3;have hinj0:∀i∈ids,∀j∈ids,gOf σ i=gOf σ j->i=j:=by
  have key:∀(l:List Nat),(l.map (gOf σ)).Nodup->∀i∈l,∀j∈l,gOf σ i=gOf σ j->i=j:=by
   intro l
   induction l with
   |nil=>intro _ i hi;cases hi
   |cons a l ih=>
    intro hn i hi j hj he;simp only[uT,yW]at hn;rcases yF.1 hi with hi'|hi'<;>rcases yF.1 hj with hj'|hj'
    ·rw[hi',hj']
    ·exact absurd (uP.2 ⟨j,hj',by rw[<-he,hi']⟩) hn.1
    ·exact absurd (uP.2 ⟨i,hi',by rw[he,hj']⟩) hn.1
    ·exact ih hn.2 i hi' j hj' he
  exact key ids hpair.1
 have hidn:ids.Nodup:=by
  have:∀(l:List Nat),(l.map (gOf σ)).Nodup->l.Nodup:=by
   intro l
   induction l with
   |nil=>intro _;exact zA
   |cons a l ih=>
    intro hn;simp only[uT,yW]at hn;exact yW.2 ⟨λ hm=>hn.1 (uP.2 ⟨a,hm,rfl⟩),ih hn.2⟩
  exact this ids hpair.1
 have hsp:=gE.1 (show(Fs.map (·.o)++M.map (·.1)).Nodup by rw[hids];exact hidn);have ha:ZhG Fs:=⟨c4,hsp.1,hn⟩;have hMn:(M.map (·.1)).Nodup:=hsp.2.1;have hlt:∀i∈ids,i<1125899906842624:=λ i hi=>(c5 i hi).1.2
 have hge:∀f∈Fs,∀i,1125899906842624<=fid f.j i:=λ f hf i=>by
  have:=(hn f hf).1;simp only[fid];omega
 have hobo:∀f∈Fs,Zau Fs (Zap M) f.o= .cells (Za4 f.n f.ref):=λ f hf=>Zoj ha hf
 have hobM:∀q∈M,Zau Fs (Zap M) q.1=q.2:=by
  intro q hq;rw[Zi9 λ f hf=>⟨λ he=>?_,λ i hi he=>?_⟩]
  ·exact Zig M hMn q hq
  ·exact hsp.2.2 f.o (uP.2 ⟨f,hf,rfl⟩) q.1 (uP.2 ⟨q,hq,rfl⟩) he.symm
  ·have:=hlt q.1 (by rw[<-hids];exact Aq _ (uP.2 ⟨q,hq,rfl⟩));have:=hge f hf i;omega
 refine Zq9 (λ x=>if x<1125899906842624 then gOf σ x else gOf σf x) (λ x=>x∈ids\/∃f∈Fs,∃i,i<f.n/\x=fid f.j i) (λ t=>?_) (λ o ho=>?_) (λ o ho=>?_) (λ x hx y hy he=>?_) (λ o ho=>?_) (λ o h1 h2 ho=>?_)
 ·show Zbz L t= .unk\/_;rcases Zls L t with h|⟨p,hp,h⟩
  ·exact .inl h
  ·right
   have hin:=ZlT 4 _ (c1 (t,p) hp);have e:(⟨Zbz L,Zau Fs (Zap M)⟩:St).env t=p:=h;rw[e];refine⟨(hL (t,p) hp).trans (Zua hin λ o ho=>?_),hin.mono λ o ho=> .inl ho⟩;rw[if_pos (hlt o ho)]
 ·show S.objs _=(Zau Fs (Zap M) o).ren _/\(Zau Fs (Zap M) o).In _;rcases ho with ho|⟨f,hf,i,hi,rfl⟩
  ·simp only[if_pos (hlt o ho)];rw[<-hids]at ho;rcases yK.1 ho with ho|ho
   ·obtain⟨f,hf,rfl⟩:=uP.1 ho;obtain⟨r,h1,h2⟩:=hF f hf;rw[hobo f hf];refine⟨?_, .cells _ λ c hc=>?_⟩
    ·rw[h1];simp only[Ob.ren]
     congr 1
     simp only[Za4,gR];refine yM λ i hi=>?_
     have hi:=uZ.1 hi;rw[(h2 i hi).1];simp only[Function.comp,Fam.ref,PV.ren];rw[if_neg (by have:=hge f hf i;omega)]
    ·simp only[Za4,uP,uZ]at hc;obtain⟨i,hi,rfl⟩:=hc;exact .ref _ _ _ _ _ (.inr ⟨f,hf,i,hi,rfl⟩)
   ·obtain⟨q,hq,rfl⟩:=uP.1 ho;rw[hobM q hq];have hin:=Zon (c2 q hq);refine⟨(hM q hq).trans (ZCE hin λ o ho=>?_),hin.mono λ o ho=> .inl ho⟩;rw[if_pos (hlt o ho)]
  ·simp only[if_neg (show¬fid f.j i<1125899906842624 by have:=hge f hf i;omega)];obtain⟨r,h1,h2⟩:=hF f hf;rw[Zoi ha hf hi];exact⟨(h2 i hi).2, .row _ _⟩
 ·show Zau Fs (Zap M) o= .dead;rw[Zi9 λ f hf=>⟨λ he=>?_,λ i hi he=>?_⟩]
  ·refine Zi8 M o λ hm=>ho (.inl ?_)
   rw[<-hids];exact Aq _ hm
  ·exact ho (.inl (by rw[<-hids];exact Ch _ (uP.2 ⟨f,hf,he.symm⟩)))
  ·exact ho (.inr ⟨f,hf,i,hi,he⟩)
 ·have big:∀z,(∃f∈Fs,∃i,i<f.n/\z=fid f.j i)->¬z<1125899906842624:=by
   rintro z ⟨f,hf,i,hi,rfl⟩;have:=hge f hf i;omega
  have mixed:∀x y,x∈ids->(∃f∈Fs,∃i,i<f.n/\y=fid f.j i)->gOf σ x=gOf σf y->False:=by
   intro x y hx hy he;have hb:=big y hy;rcases Zlx σf y with h|⟨p,hp,h1,h2⟩
   ·have:=(c5 x hx).2;omega
   ·exact hpair.2.2 (gOf σ x) (uP.2 ⟨x,hx,rfl⟩) p.2 (uP.2 ⟨p,hp,rfl⟩) (by rw[he,h2])
  rcases hx with hx|hx<;>rcases hy with hy|hy
  ·simp only[if_pos (hlt x hx),if_pos (hlt y hy)]at he;exact hinj0 x hx y hy he
  ·simp only[if_pos (hlt x hx),if_neg (big y hy)]at he;exact(mixed x y hx hy he).elim
  ·simp only[if_neg (big x hx),if_pos (hlt y hy)]at he;exact(mixed y x hy hx he.symm).elim
  ·simp only[if_neg (big x hx),if_neg (big y hy)]at he;have bx:=big x hx;have byy:=big y hy;rcases Zlx σf x with h|⟨p,hp,h1,h2⟩<;>rcases Zlx σf y with h'|⟨p',hp',h1',h2'⟩
   ·omega
   ·have:=(c6 p' hp').2;omega
   ·have:=(c6 p hp).2;omega
   ·have key:∀(l:List (Nat×Nat)),(l.map (·.2)).Nodup->∀p∈l,∀q∈l,p.2=q.2->p=q:=by
     intro l
     induction l with
     |nil=>intro _ p hp;cases hp
     |cons a l ih=>
      intro hn p hp q hq he;simp only[uT,yW]at hn;rcases yF.1 hp with hp'|hp'<;>rcases yF.1 hq with hq'|hq'
      ·rw[hp',hq']
      ·exact absurd (uP.2 ⟨q,hq',by rw[<-he,hp']⟩) hn.1
      ·exact absurd (uP.2 ⟨p,hp',by rw[he,hq']⟩) hn.1
      ·exact ih hn.2 p hp' q hq' he
    have:=key σf hpair.2.1 p hp p' hp' (by omega);rw[<-h1,<-h1',this]
 ·rcases ho with ho|⟨f,hf,i,hi,rfl⟩
  ·simp only[if_pos (hlt o ho)];exact(c5 o ho).1.1
  ·left
   have hb:=hge f hf i;simp only[if_neg (show¬fid f.j i<1125899906842624 by omega)];refine⟨by omega,?_⟩;rcases Zlx σf (fid f.j i)with h|⟨p,hp,h1,h2⟩
   ·omega
   ·rw[h2];exact(c6 p hp).1
 ·exact c7 o h1 h2 λ hm=>ho (.inl hm)
section rules
variable {P:Program}{B X:Nat->Prop}{w0:W0}{n:Nat}{Q:Exit->St->Prop}{S:St}
theorem Zfd {c:Code}{κ:Type}(inv:κ->Prop)(L:κ->List (Nat×PV))(Fs:κ->List Fam)(M:κ->List (Nat×Ob))(m:κ->Nat)(k0:κ)(h0:inv k0)(h1:ZgP S (L k0) (Fs k0) (M k0))
  (round:∀k,inv k->PW P B X w0 n c (Zjp (λ S'=>∃k',inv k'/\ZgP S' (L k') (Fs k') (M k')/\m k'<m k) Q) ⟨Zbz (L k),Zau (Fs k) (Zap (M k))⟩):PW P B X w0 n (.loop c) Q S:=
 ZtS (κ:={k:κ//inv k}) (λ k=>⟨Zbz (L k.1),Zau (Fs k.1) (Zap (M k.1))⟩) (λ k=>m k.1) ⟨k0,h0⟩ h1 λ k=>ZtT (round k.1 k.2) λ e S' h=>by
  cases e with
  |normal=>obtain⟨k',h2,h3,h4⟩:=h;exact⟨⟨k',h2⟩,h3,h4⟩
  |_=>exact h
end rules
theorem ZjO {S:St}(j o sz n:Nat)(h1:S.objs o= .cells (List.replicate n .nilS))(h2:∀i,i<n->S.objs (fid j i)= .dead)(hj:1<=j)(ho:o<1125899906842624):
  Ent S ⟨S.env,Zau [⟨j,o,sz,n,λ _=>[]⟩] S.objs⟩:=by
 rw[Zg0];intro B X w0 m a w ι hS;have cases3:∀x,(x=o/\Zau [⟨j,o,sz,n,λ _=>[]⟩] S.objs x= .cells (Za4 n (Fam.ref ⟨j,o,sz,n,λ _=>[]⟩)))\/(S.objs x= .dead/\Zau [⟨j,o,sz,n,λ _=>[]⟩] S.objs x= .row sz [])\/
   (x≠o/\Zau [⟨j,o,sz,n,λ _=>[]⟩] S.objs x=S.objs x):=by
  intro x;simp only[Zau];by_cases hx:x=o
  ·left;rw[if_pos hx];exact⟨hx,rfl⟩
  ·right
   rw[if_neg hx];by_cases hr:fid j 0<=x/\x<fid j n
   ·left;rw[if_pos hr]
    have:=h2 (x-fid j 0) (by simp only[fid]at*;omega);rw[show fid j (x-fid j 0)=x by simp only[fid]at*;omega]at this;exact⟨this,rfl⟩
   ·right;rw[if_neg hr];exact⟨hx,rfl⟩
 have live:∀x,Zau [⟨j,o,sz,n,λ _=>[]⟩] S.objs x≠ .gone->S.objs x≠ .gone:=by
  intro x hx;rcases cases3 x with⟨rfl,_⟩|⟨h,_⟩|⟨_,h⟩
  ·rw[h1];simp
  ·rw[h];simp
  ·rw[<-h];exact hx
 refine⟨ι,hS.size,hS.defers,hS.frame,hS.hB,hS.hXB,λ o1 o2 b f1 f2 e1 e2=>hS.inj o1 o2 b (live o1 f1) (live o2 f2) e1 e2,hS.free,hS.env,λ x=>?_,hS.stay⟩;show Ob.At w ι X x (Zau _ S.objs x);have hx:=hS.objs x;rcases cases3 x with⟨rfl,h⟩|⟨h,h'⟩|⟨_,h⟩
 ·rw[h];rw[h1]at hx;cases hx with
  |cells _ b c T hι hb hsz hone hat=>
   refine .cells _ b c T hι hb (by simpa[Za4]using hsz) hone λ i p v hi hv=>?_
   obtain⟨hin,rfl⟩:=ZCv hi;have:=hat i .nilS v (by rw[gH,if_pos hin]) hv;cases this;exact .ref0 _ _ _ _
 ·rw[h'];exact .row0 _ (hS.dead h)
 ·rw[h];exact hx
def Zdr (o:Nat)(dom:Nat->Prop)(ob:Nat->Ob):Prop:=∀x,x≠o->Ob.In dom (ob x)
def Zfw (j k:Nat)(ob:Nat->Ob):Nat->Ob:=upd (fid j k) .dead ob
theorem ZfI {o j k:Nat}{dom:Nat->Prop}{ob:Nat->Ob}(h:Zdr o dom ob):Zdr o dom (Zfw j k ob):=λ x hx=>by
 simp only[Zfw,upd];split
 ·exact .dead
 ·exact h x hx
theorem ZfL {o u sz:Nat}{l:List D}{dom:Nat->Prop}{ob:Nat->Ob}(h:Zdr o dom ob):Zdr o dom (upd u (.row sz l) ob):=λ x hx=>by
 simp only[upd];split
 ·exact .row _ _
 ·exact h x hx
theorem ZfG {o u:Nat}{dom:Nat->Prop}{ob:Nat->Ob}(h:Zdr o dom ob):Zdr o dom (upd u .dead ob):=λ x hx=>by
 simp only[upd];split
 ·exact .dead
 ·exact h x hx
theorem ZfM {o:Nat}{c:Ob}{dom:Nat->Prop}{ob:Nat->Ob}(h:Zdr o dom ob):Zdr o dom (upd o c ob):=λ x hx=>by
 simp only[upd,if_neg hx];exact h x hx
theorem ZfK {o j k u:Nat}{ids:List Nat}{M:List (Nat×Ob)}(h:(M.all λ q=>q.2.only ids)=true)(hi:(ids.all λ i=>decide (i<1125899906842624)&& !(Nat.beq i u))=true)(hj:1<=j):
  Zdr o (λ x=>x≠fid j k/\x≠u) (Zap M):=λ x _=>by
 rcases Zki M x with⟨h1,_⟩|⟨p,h1,h2⟩
 ·rw[h1];exact .dead
 ·rw[h2];simp only[uX]at h hi;refine(Zon (h (x,p) h1)).mono λ y hy=>?_
  have:=hi y hy;simp only[uL,uF,yC]at this;refine⟨by simp only[fid];omega,λ he=>?_⟩;have:=this.2;rw[he]at this;simp at this
theorem ZfN {j o sz n:Nat}{rows:Nat->List D}{dom:Nat->Prop}{Fs:List Fam}{base:Nat->Ob}(h:Zdr o dom (Zau Fs base)):Zdr o dom (Zau (⟨j,o,sz,n,rows⟩::Fs) base):=λ x hx=>by
 simp only[Zau,if_neg hx];split
 ·exact .row _ _
 ·exact h x hx
theorem ZfH {o j k u:Nat}{f:Fam}{Fs:List Fam}{base:Nat->Ob}(hj:f.j≠j)(hn:f.n<=1125899906842624)(hk:k<1125899906842624)(hu:u<1125899906842624)(h1:1<=f.j)
  (h:Zdr o (λ x=>x≠fid j k/\x≠u) (Zau Fs base)):Zdr o (λ x=>x≠fid j k/\x≠u) (Zau (f::Fs) base):=λ x hx=>by
 simp only[Zau];split
 ·refine .cells _ λ c hc=>?_
  simp only[Za4,uP,uZ]at hc;obtain⟨i,hi,rfl⟩:=hc;refine .ref _ _ _ _ _ ⟨λ he=>hj ?_,by simp only[fid];omega⟩;exact(Znz he (by omega) hk).1
 ·split
  ·exact .row _ _
  ·exact h x hx
theorem ZfJ {o:Nat}{dom:Nat->Prop}{base:Nat->Ob}(h:Zdr o dom base):Zdr o dom (Zau [] base):=h
theorem ZfT (L:List (Nat×PV))(ob:Nat->Ob)(ids:List Nat)(o k u j sz n:Nat){r:Nat->PV}{l:List D}(ho:ob o= .cells (Za4 n r))(hf:ob (fid j k)= .row sz l)(hr:r k= .ref (fid j k) sz 0 l.length l.length)
  (hc:∀i,i<n->i≠k->(r i).In (λ x=>x≠fid j k/\x≠u))(hob:Zdr o (λ x=>x≠fid j k/\x≠u) ob)
  (hL:(L.all λ p=>p.2.only ids 4)=true)(hids:(ids.all λ i=>decide (i<1125899906842624)&& !(Nat.beq i u))=true)
  (hu:((decide (u<1000)||decide (2000<=u))&&decide (u<1125899906842624)&& !(Nat.beq o u)&&decide (1<=j)&&decide (o<1125899906842624))=true):
  Ent ⟨Zbz L,ob⟩ ⟨Zbz L,upd u (.row sz l) (Zfw j k (upd o (.cells (Za4 n (upd k (.ref u sz 0 l.length l.length) r))) ob))⟩:=by
 unfold Zfw;simp only[uL,qZ,uF,yC]at hu;obtain⟨⟨⟨⟨hu1,hu2⟩,hu3⟩,hj⟩,ho5⟩:=hu;have hou:o≠u:=λ he=>by rw[he]at hu3;simp at hu3
 have hbig:∀x,x<1125899906842624->x≠fid j k:=λ x hx=>by simp only[fid];omega
 simp only[uX,uL,uF,yC]at hL hids;refine Zq9 (λ x=>if x=u then fid j k else x) (λ x=>x≠fid j k) (λ t=>?_) (λ x hx=>?_) (λ x hx=>?_) (λ x hx y hy he=>?_) (λ x hx=>?_) (λ x h1 h2 hx=>?_)
 ·rcases Zls L t with h|⟨p,hp,h⟩
  ·exact .inl h
  ·right
   simp only[h];have hin:=ZlT 4 _ (hL (t,p) hp);have hne:∀y,y∈ids->y≠u:=λ y hy he=>by have:=(hids y hy).2;rw[he]at this;simp at this
   exact⟨(Zl7 hin λ y hy=>if_neg (hne y hy)).symm,hin.mono λ y hy=>hbig y (hids y hy).1⟩
 ·simp only[upd];by_cases h1:x=u
  ·subst h1;rw[if_pos rfl,if_pos rfl];exact⟨hf, .row _ _⟩
  ·rw[if_neg h1,if_neg h1,if_neg hx];by_cases h2:x=o
   ·subst h2;rw[if_pos rfl];refine⟨?_, .cells _ λ c hcm=>?_⟩
    ·rw[ho];simp only[Ob.ren]
     congr 1
     simp only[Za4,gR];refine yM λ i hi=>?_
     have hi:=uZ.1 hi;simp only[Function.comp];by_cases hik:i=k
     ·subst hik;rw[upd,if_pos rfl,hr];simp only[PV.ren,if_pos]
     ·rw[upd,if_neg hik];exact(Zl7 (hc i hi hik) λ y hy=>if_neg hy.2).symm
    ·simp only[Za4,uP,uZ]at hcm;obtain⟨i,hi,rfl⟩:=hcm;by_cases hik:i=k
     ·rw[upd,if_pos hik];exact .ref _ _ _ _ _ (hbig u hu2)
     ·rw[upd,if_neg hik];exact(hc i hi hik).mono λ y hy=>hy.1
   ·rw[if_neg h2];have hin:=hob x h2;exact⟨(Zt8 hin λ y hy=>if_neg hy.2).symm,hin.mono λ y hy=>hy.1⟩
 ·have hx:x=fid j k:=Ar.1 hx;subst hx;show upd u _ _ _=_;rw[upd,if_neg (λ he=>hbig u hu2 he.symm),upd,if_pos rfl]
 ·split at he<;>split at he
  ·omega
  ·exact absurd he.symm hy
  ·exact absurd he hx
  ·exact he
 ·by_cases h1:x=u
  ·subst h1;left;rw[if_pos rfl];refine⟨hu1,?_⟩;simp only[fid];omega
  ·right;rw[if_neg h1]
 ·have hx:x=fid j k:=Ar.1 hx;simp only[fid]at hx;omega
theorem ZjP (f:Fam)(Fs:List Fam)(L:List (Nat×PV))(M:List (Nat×Ob))(ha:ZhG (f::Fs))(hMo:(M.all λ q=>decide (q.1<1125899906842624)&& !(Nat.beq q.1 f.o))=true)
  (ids:List Nat)(hL:(L.all λ p=>p.2.only ids 4)=true)(hM:(M.all λ q=>q.2.only ids)=true)(hids:(ids.all λ i=>decide (i<1125899906842624))=true)
  (hng:(M.all λ q=>match q.2 with| .gone=>false|_=>true)=true):
  Ent ⟨Zbz L,Zau (f::Fs) (Zap M)⟩ ⟨Zbz L,Zau Fs (Zap ((f.o, .row 1 ((List.range f.n).map λ i=> .sl (f.rows i)))::M))⟩:=by
 rw[Zg0];intro B X w0 m a w ι hS;have dec:=λ x=>Classical.propDecidable (∃i,i<f.n/\x=fid f.j i)
 have hf:=ha.2.2 f (by simp);simp only[uX,uL,uF,yC]at hL hM hids hMo
 let ι':Nat->Option Nat:=λ x=>if∃i,i<f.n/\x=fid f.j i then none else ι x
 have hsub:∀x b,ι' x=some b->(¬∃i,i<f.n/\x=fid f.j i)/\ι x=some b:=by
  intro x b h;by_cases hx:∃i,i<f.n/\x=fid f.j i
  ·simp only[ι',if_pos hx]at h;cases h
  ·simp only[ι',if_neg hx]at h;exact⟨hx,h⟩
 have hκ:∀x,(¬∃i,i<f.n/\x=fid f.j i)->ι' x=ι x:=λ x hx=>if_neg hx
 have hX:∀b,ownX ι' X b->ownX ι X b:=by
  rintro b (hb|⟨o,hb⟩)
  ·exact .inl hb
  ·exact .inr ⟨o,(hsub o b hb).2⟩
 have nogone:∀x,Zau (f::Fs) (Zap M) x≠ .gone:=by
  have hb:∀x,Zap M x≠ .gone:=ZcW M hng;have:∀(Fs:List Fam) x,Zau Fs (Zap M) x≠ .gone:=by
   intro Fs
   induction Fs with
   |nil=>exact hb
   |cons g Fs ih=>intro x;simp only[Zau];split;· simp
                  · split
                    · simp
                    · exact ih x
  exact this _
 have hnb:∀i b,i<f.n->ι (fid f.j i)=some b->¬ownX ι' X b:=by
  intro i b hi hι;rintro(hx|⟨o',ho'⟩)
  ·exact(hS.free _ b hι).1 (hS.hXB.1 b hx)
  ·obtain⟨h1,h2⟩:=hsub o' b ho';exact h1 ⟨i,hi,hS.inj o' _ b (nogone _) (nogone _) h2 hι⟩
 have small:∀x,x<1125899906842624->¬∃i,i<f.n/\x=fid f.j i:=by
  rintro x hx ⟨i,_,rfl⟩;simp only[fid]at hx;omega
 have hpv:∀p v,PV.In (λ x=>¬∃i,i<f.n/\x=fid f.j i) p->PV.At w ι X p v->PV.At w ι' X p v:=by
  intro p v hin hp;refine Zmv (g:=λ x=>x) (dom:=λ x=>¬∃i,i<f.n/\x=fid f.j i) hκ hX hin v ?_;rw[Zl7 hin λ _ _=>rfl];exact hp
 have hobv:∀x ob,(¬∃i,i<f.n/\x=fid f.j i)->Ob.In (λ x=>¬∃i,i<f.n/\x=fid f.j i) ob->Ob.At w ι X x ob->Ob.At w ι' X x ob:=by
  intro x ob hx hin hp;refine ZpG (g:=λ x=>x) (dom:=λ x=>¬∃i,i<f.n/\x=fid f.j i) hκ hX hx hin ?_;rw[Zt8 hin λ _ _=>rfl];exact hp
 have hnew:∀x,(x=f.o/\Zau Fs (Zap ((f.o, .row 1 ((List.range f.n).map λ i=> .sl (f.rows i)))::M)) x= .row 1 ((List.range f.n).map λ i=> .sl (f.rows i)))\/
   ((∃i,i<f.n/\x=fid f.j i)/\Zau Fs (Zap ((f.o, .row 1 ((List.range f.n).map λ i=> .sl (f.rows i)))::M)) x= .dead)\/
   (x≠f.o/\(¬∃i,i<f.n/\x=fid f.j i)/\Zau Fs (Zap ((f.o, .row 1 ((List.range f.n).map λ i=> .sl (f.rows i)))::M)) x=Zau (f::Fs) (Zap M) x):=by
  intro x;by_cases h1:x=f.o
  ·left
   refine⟨h1,?_⟩;subst h1;rw[Zi9 λ g hg=>⟨λ he=>?_,λ i hi he=>?_⟩]
   ·exact if_pos rfl
   ·have:=ha.2.1;simp only[uT,yW]at this;exact this.1 (uP.2 ⟨g,hg,he.symm⟩)
   ·have:=(ha.2.2 g (uO _ hg)).1;have h3:=hf.2.1;rw[he]at h3;simp only[fid]at h3;omega
  ·right
   by_cases h2:∃i,i<f.n/\x=fid f.j i
   ·left
    refine⟨h2,?_⟩;obtain⟨i,hi,rfl⟩:=h2;rw[Zi9 λ g hg=>⟨λ he=>?_,λ i' hi' he=>?_⟩]
    ·refine Zi8 _ _ λ hm=>?_
     simp only[uT,yF]at hm;rcases hm with he|hm
     ·exact h1 he
     ·obtain⟨q,hq,he⟩:=uP.1 hm;have:=(hMo q hq).1;rw[he]at this;simp only[fid]at this;omega
    ·have:=(ha.2.2 g (uO _ hg)).2.1;rw[<-he]at this;simp only[fid]at this;omega
    ·have hgn:=(ha.2.2 g (uO _ hg)).2.2;have:=(Znz he (by omega) (by omega)).1;have h5:=ha.1;simp only[uT,yW]at h5;exact h5.1 (uP.2 ⟨g,hg,this.symm⟩)
   ·right
    refine⟨h1,h2,?_⟩;show _=Zau (f::Fs) (Zap M) x;simp only[Zau];rw[if_neg h1,if_neg (λ hx=>h2 ⟨x-fid f.j 0,by simp only[fid]at*;omega,by simp only[fid]at*;omega⟩)];have e:∀(Fs:List Fam),Zau Fs (Zap ((f.o, .row 1 ((List.range f.n).map λ i=> .sl (f.rows i)))::M)) x=Zau Fs (Zap M) x:=by
     intro Fs
     induction Fs with
     |nil=>exact if_neg h1
     |cons g Fs ih=>simp only[Zau];rw[ih]
    exact e Fs
 refine⟨ι',hS.size,hS.defers,hS.frame,hS.hB,hS.hXB,λ o1 o2 b _ _ e1 e2=>hS.inj o1 o2 b (nogone _) (nogone _) (hsub o1 b e1).2 (hsub o2 b e2).2,λ o b hb=>hS.free o b (hsub o b hb).2,λ t=>?_,λ x=>?_,λ o b hb=>?_⟩
 ·have:=hS.env t;show PV.At w ι' X (Zbz L t) _;have this:PV.At w ι X (Zbz L t) _:=this;rcases Zls L t with h|⟨p,hp,h⟩
  ·rw[h];exact .unk _
  ·rw[h]at this|-;exact hpv p _ ((ZlT 4 _ (hL (t,p) hp)).mono λ y hy=>small y (hids y hy)) this
 ·show Ob.At w ι' X x (Zau Fs (Zap ((f.o, .row 1 ((List.range f.n).map λ i=> .sl (f.rows i)))::M)) x);rcases hnew x with⟨rfl,h⟩|⟨hx,h⟩|⟨h1,h2,h⟩
  ·rw[h];have ho:=hS.objs f.o;rw[show(⟨Zbz L,Zau (f::Fs) (Zap M)⟩:St).objs f.o= .cells (Za4 f.n f.ref)from Zoj ha (by simp)]at ho;cases ho with
   |cells _ b c T hι hb hsz hone hat=>
    refine .row 1 _ b c T ((hκ _ (small _ hf.2.1)).trans hι) hb (by simp[Za4]at hsz|-;omega) (λ d hd=>?_) hone λ i d j e v hi hj hv=>?_
    ·obtain⟨i,_,rfl⟩:=uP.1 hd;rfl
    ·rw[uI]at hi;cases hr:(List.range f.n)[i]? with
     |none=>rw[hr]at hi;cases hi
     |some i'=>
      rw[hr]at hi;have hin:i<f.n:=by simpa using(uB.1 hr).1
      have hii:i'=i:=by rw[yR hin]at hr;cases hr;rfl
      subst hii;simp only[qB,yI]at hi;subst hi;have hj0:j=0/\e= .sl (f.rows i'):=by
       simp only[D.cells]at hj;cases j with
       |zero=>simp at hj;exact⟨rfl,hj.symm⟩
       |succ j=>simp at hj
      obtain⟨rfl,rfl⟩:=hj0;rw[jS,gX]at hv;have hat':=hat i' (f.ref i') v (Zkw hin) hv;have hrow:=hS.objs (fid f.j i');rw[show(⟨Zbz L,Zau (f::Fs) (Zap M)⟩:St).objs (fid f.j i')= .row f.sz (f.rows i')from Zoi ha (by simp) hin]at hrow;have hnbi:=λ b=>hnb i' b hin
      simp only[Fam.ref]at hat';generalize f.rows i'=l at hat' hrow|-;generalize hlen:l.length=len at hat';cases hat' with
      |ref0 _ _ _ base=>
       have:l=[]:=jN.1 hlen;subst this;exact .slnil _ _
      |ref _ _ _ _ _ capr b' hι' hl hc hm hs=>
       cases hrow with
       |row0 _ h=>rw[h]at hι';cases hι'
       |row _ _ b2 c' T' hι'' hb' hsz' hcl' hone' hat''=>
        obtain rfl:b2=b':=by rw[hι'']at hι';exact zR hι'
        have cell:∀(i:Nat) d (j:Nat) e,l[i]? =some d->d.cells[j]? =some e->∃v,c'[i*f.sz+j]? =some v/\v.oneCell'=true/\D.At w (ownX ι' X) e v:=by
         intro i d j e hi hj;have hjs:j<f.sz:=by rw[<-hcl' d (uA hi)];exact(uB.1 hj).1
         have hil:=(uB.1 hi).1;have hlt:i*f.sz+j<c'.size:=by
          have:(i+1)*f.sz<=l.length*f.sz:=yO _ (by omega);rw[qJ]at this;omega
         have hg:c'[i*f.sz+j]? =some c'[i*f.sz+j]:=uU hlt;exact⟨_,hg,hone' _ _ hg,(hat'' i d j e _ hi hj hg).sub hX⟩
        have:=D.At.sl (w:=w) (X:=ownX ι' X) l b2 (0*f.sz) capr f.sz (by rw[hlen];exact hl) hm hcl'
         (λ i j=>(w.cell? ⟨b2,0*f.sz+i*f.sz+j,none⟩).getD undef) (λ i d j e hi hj=>by
          obtain⟨v,g2,g3,g4⟩:=cell i d j e hi hj;have hc:w.cell? ⟨b2,0*f.sz+i*f.sz+j,none⟩=some v:=by rw[Zdg hb',jK,qT];exact g2
          rw[hc];exact⟨rfl,g3,hnbi b2 hι''⟩) (λ i d j e hi hj=>by
          obtain⟨v,g2,g3,g4⟩:=cell i d j e hi hj;have hc:w.cell? ⟨b2,0*f.sz+i*f.sz+j,none⟩=some v:=by rw[Zdg hb',jK,qT];exact g2
          rw[hc];exact g4)
        rw[hlen]at this;exact this
  ·rw[h];exact .dead (if_pos hx)
  ·rw[h];refine hobv x _ h2 ?_ (hS.objs x);have e:∀(Fs:List Fam),(∀g,g∈Fs->g.j≠f.j/\g.n<=1125899906842624)->∀x,Ob.In (λ x=>¬∃i,i<f.n/\x=fid f.j i) (Zau Fs (Zap M) x):=by
    intro Fs
    induction Fs with
    |nil=>
     intro _ x;show Ob.In _ (Zap M x);rcases Zki M x with⟨h1,_⟩|⟨p,h1,h2⟩
     ·rw[h1];exact .dead
     ·rw[h2];exact(Zon (hM (x,p) h1)).mono λ y hy=>small y (hids y hy)
    |cons g Fs ih=>
     intro hg x;simp only[Zau];split
     ·refine .cells _ λ c hc=>?_
      simp only[Za4,uP,uZ]at hc;obtain⟨i,hi,rfl⟩:=hc;refine .ref _ _ _ _ _ ?_;rintro⟨i',hi',he⟩;have:=hg g (by simp);exact this.1 (Znz he (by omega) (by omega)).1
     ·split
      ·exact .row _ _
      ·exact ih (λ g' hg'=>hg g' (uO _ hg')) x
   show Ob.In _ (Zau (f::Fs) (Zap M) x);have hne:¬(fid f.j 0<=x/\x<fid f.j f.n):=λ hx=>h2 ⟨x-fid f.j 0,by simp only[fid]at*;omega,by simp only[fid]at*;omega⟩
   simp only[Zau];rw[if_neg h1,if_neg hne];refine e Fs (λ g hg=>⟨λ he=>?_,(ha.2.2 g (uO _ hg)).2.2⟩) x;have h5:=ha.1;simp only[uT,yW]at h5;exact h5.1 (uP.2 ⟨g,hg,he⟩)
 ·obtain⟨g1,g2,g3⟩:=hS.stay o b hb;exact⟨g1,(hκ o (small o (by omega))).trans g2,g3⟩
@[go_sem] theorem Zeb {t j i:Nat}(h:t<1125899906842624)(hj:1<=j):(t=fid j i)=False:=by
 simp only[fid,eq_iff_iff,iff_false];omega
@[go_sem] theorem Zd8 {t j i:Nat}(h:t<1125899906842624)(hj:1<=j):(fid j i=t)=False:=by
 simp only[fid,eq_iff_iff,iff_false];omega
@[go_sem] theorem Zyu {j a b:Nat}:(fid j a=fid j b)=(a=b):=by simp only[fid,eq_iff_iff];omega
@[go_sem] theorem Zs5 {base:Nat->Ob}:Zau [] base=base:=rfl
def ZAT :List Fam->(Nat->Ob)->Nat->Ob:=Zau
@[go_sem] theorem ZGg {j o sz n t:Nat}{rows:Nat->List D}{fs:List Fam}{base:Nat->Ob}:
  Zau (⟨j,o,sz,n,rows⟩::fs) base t=if t<1125899906842624/\1<=j then(if t=o then .cells (Za4 n (Fam.ref ⟨j,o,sz,n,rows⟩))else Zau fs base t)else ZAT (⟨j,o,sz,n,rows⟩::fs) base t:=by
 split
 ·rename_i h;simp only[Zau];rw[if_neg (show¬(fid j 0<=t/\t<fid j n) by simp only[fid];omega)]
 ·rfl
@[go_sem high] theorem ZGf {j o sz n i:Nat}{rows:Nat->List D}{fs:List Fam}{base:Nat->Ob}(h:o<1125899906842624)(hj:1<=j)(hi:i<n):
  Zau (⟨j,o,sz,n,rows⟩::fs) base (fid j i)= .row sz (rows i):=by
 simp only[Zau];rw[if_neg (by simp only[fid];omega),if_pos (by simp only[fid];omega)]
 congr 2;simp only[fid];omega
def Zy9 :Nat->Nat->(Nat->Ob)->Nat->Ob:=Zfw
@[go_sem] theorem ZGe {j k t:Nat}{ob:Nat->Ob}:Zfw j k ob t=if t<1125899906842624/\1<=j then ob t else Zy9 j k ob t:=by
 split
 ·rename_i h;exact if_neg (by simp only[fid];omega)
 ·rfl
@[go_sem high] theorem ZGd {j k i:Nat}{ob:Nat->Ob}:Zfw j k ob (fid j i)=if i=k then .dead else ob (fid j i):=by
 simp only[Zfw,upd,Zyu]
theorem Zkj {M:List (Nat×Ob)}{j i:Nat}(h:(M.all λ q=>decide (q.1<1125899906842624))=true)(hj:1<=j):Zap M (fid j i)= .dead:=by
 refine Zi8 M _ λ hm=>?_
 obtain⟨q,hq,he⟩:=uP.1 hm;simp only[uX,uF]at h;have:=h q hq;rw[he]at this;simp only[fid]at this;omega
def Zt6 (n:Nat)(r:Nat->PV)(k:Nat):List PV:=(Za4 n r).drop (k+1)
@[go_sem high] theorem ZGj {n k:Nat}{r:Nat->PV}(h:k<n):(Za4 n r).drop k=r k::Zt6 n r k:=by
 rw[Zt6,qY (by simpa[Za4]using h)]
 congr 1
 simp[Za4]
@[go_sem] theorem ZoN {n:Nat}{r:Nat->PV}:(Za4 n r).length=n:=by simp[Za4]
@[go_sem high] theorem ZGl {n k:Nat}{r:Nat->PV}{x:PV}(h:k<n):ZbX (Za4 n r) k [x]=Za4 n (upd k x r):=by
 refine qA λ i=>?_
 have hl:(Za4 n r).length=n:=ZoN;simp only[ZbX,yL];by_cases hi:i<n
 ·rw[Zkw hi];rcases jT i k with h1|h1|h1
  ·rw[qK,qE (by simp;omega),Bk h1,Zkw hi,upd,if_neg (by omega)]
  ·subst h1;have e:(List.take i (Za4 n r)).length=i:=by rw[yJ,hl];omega
   rw[qK,qF (by omega),upd,if_pos rfl,e,jD];rfl
  ·have e:(List.take k (Za4 n r)++[x]).length=k+1:=by rw[uG,yJ,hl,yL];omega
   rw[qF (by omega),gA,upd,if_neg (by omega),<-Zkw hi,e]
   congr 1;omega
 ·rw[uN (by simp[hl];omega),uN (by rw[ZoN];omega)]
@[go_sem] theorem ZGm {n:Nat}{r:Nat->PV}:(Za4 n r).take n=Za4 n r:=uD (by rw[ZoN];exact uJ _)
@[go_sem] theorem ZGk {n:Nat}{r:Nat->PV}{x:PV}:Za4 n r++[x]=Za4 (n+1) (upd n x r):=by
 rw[Za4,Za4,qN,uQ]
 congr 1
 ·exact yM λ i hi=>by rw[upd,if_neg (by have:=uZ.1 hi;omega)]
 ·simp[upd]
attribute [go_sem] Fam.ref jS
theorem Zoz {ids:List Nat}{f:Fam}{Fs:List Fam}{base:Nat->Ob}(h1:(decide (f.o<1000)||decide (2000<=f.o)||ids.contains f.o)=true)(hj:Nat.ble 1 f.j=true)(h:Zb5 ids (Zau Fs base)):Zb5 ids (Zau (f::Fs) base):=by
 intro o h2 h3 h4;simp only[qZ,uF,yQ]at h1;have hj:=yA hj
 have hne:o≠f.o:=λ he=>by subst he;rcases h1 with(h|h)|h;· omega
                          · omega
                          · exact h4 h
 simp only[Zau];rw[if_neg hne,if_neg (by simp only[fid];omega)];exact h o h2 h3 h4
theorem ZoB {ids:List Nat}{base:Nat->Ob}(h:Zb5 ids base):Zb5 ids (Zau [] base):=h
theorem ZoA {ids:List Nat}{objs:Nat->Ob}{j k:Nat}(hj:Nat.ble 1 j=true)(h:Zb5 ids objs):Zb5 ids (Zfw j k objs):=by
 intro o h1 h2 h3;have hj:=yA hj;rw[Zfw,upd,if_neg (by simp only[fid];omega)];exact h o h1 h2 h3
theorem ZnA {j i t:Nat}(hj:1<=j)(h:t<1125899906842624):fid j i≠t/\¬(fid j 0<=t/\t<fid j i):=by
 simp only[fid];omega
theorem ZyU (o sz:Nat)(l:List D)(base:Nat->Ob)(ho:o<1125899906842624):∀(Fs:List Fam),(∀f,f∈Fs->o≠f.o/\1<=f.j)->∀x,upd o .dead (Zg2 o sz l (Zau Fs base)) x=Zau Fs (upd o .dead (Zg2 o sz l base)) x:=by
 intro Fs
 induction Fs with
 |nil=>intro _ x;rw[Zs5,Zs5]
 |cons f Fs ihF=>
  intro h x;obtain⟨hof,hj⟩:=h f (by simp);have ih:=ihF (λ g hg=>h g (uO _ hg)) x;simp only[Zau];by_cases hx:x=o
  ·have hxf:¬x=f.o:=λ he=>hof (hx.symm.trans he)
   rw[if_neg hxf,if_neg (by rw[hx];exact(ZnA hj ho).2),<-ih,upd,if_pos hx,upd,if_pos hx]
  ·rw[<-ih,upd,if_neg hx,Zgt,upd,if_neg hx,Zgt];by_cases h1:x=f.o
   ·rw[if_pos h1,if_pos h1];simp only[Ob.frz,PV.frzL_eq]
    congr 1
    simp only[Za4,gR];refine yM λ i _=>?_
    simp only[Function.comp,Fam.ref,PV.frz];rw[if_neg (ZnA hj ho).1]
   ·rw[if_neg h1,if_neg h1];by_cases h2:fid f.j 0<=x/\x<fid f.j f.n
    ·rw[if_pos h2,if_pos h2];rfl
    ·rw[if_neg h2,if_neg h2]
theorem Zyh (L:List (Nat×PV))(Fs:List Fam)(M:List (Nat×Ob))(o sz:Nat)(l:List D)(hM:Zap M o= .row sz l)(hF:(Fs.all λ f=> !(Nat.beq o f.o)&&Nat.ble 1 f.j)=true)(ho:decide (o<1125899906842624)=true)
  (hng:(M.all λ q=>match q.2 with| .gone=>false|_=>true)=true)(hmv:o<1000\/2000<=o):Ent ⟨Zbz L,Zau Fs (Zap M)⟩ ⟨ZnH o sz l (Zbz L),Zau Fs (upd o .dead (Zg2 o sz l (Zap M)))⟩:=by
 have ho:o<1125899906842624:=Db ho;have hF':∀f,f∈Fs->o≠f.o/\1<=f.j:=by
  intro f hf;simp only[uX,uL,yC]at hF;have h1:=hF f hf;exact⟨λ he=>by have:=h1.1;rw[he]at this;simp at this,yA h1.2⟩
 have h2:Zau Fs (Zap M) o= .row sz l:=by
  rw[Zi9 λ f hf=>⟨(hF' f hf).1,λ i _ he=>(ZnA (hF' f hf).2 ho).1 he.symm⟩];exact hM
 have nog:∀(Fs:List Fam) x,Zau Fs (Zap M) x≠ .gone:=by
  intro Fs
  induction Fs with
  |nil=>exact ZcW M hng
  |cons g Fs ih=>intro x;simp only[Zau];split;· simp
                 · split
                   · simp
                   · exact ih x
 have:=Zc5 (S:=⟨Zbz L,Zau Fs (Zap M)⟩) o sz l h2 (nog Fs) hmv;rw[show(upd o .dead (Zg2 o sz l (Zau Fs (Zap M))):Nat->Ob)=Zau Fs (upd o .dead (Zg2 o sz l (Zap M)))from funext (ZyU o sz l (Zap M) ho Fs hF')]at this;exact this
theorem Zra {S:St}(o n:Nat)(h1:S.objs o= .cells (List.replicate n .nilS)):Ent S ⟨S.env,upd o (.row 1 (List.replicate n (.sl []))) S.objs⟩:=by
 rw[Zg0];intro B X w0 m a w ι hS;refine⟨ι,hS.size,hS.defers,hS.frame,hS.hB,hS.hXB,λ o1 o2 b f1 f2 e1 e2=>?_,hS.free,hS.env,λ p=>?_,hS.stay⟩
 ·have live:∀o',upd o (.row 1 (List.replicate n (.sl []))) S.objs o'≠ .gone->S.objs o'≠ .gone:=by
   intro o' hg;by_cases he:o'=o
   ·rw[he,h1];simp
   ·simp only[upd,if_neg he]at hg;exact hg
  exact hS.inj o1 o2 b (live o1 f1) (live o2 f2) e1 e2
 ·by_cases hp:p=o
  ·subst hp;have hq:=hS.objs p;rw[h1]at hq;simp only[upd,if_true];cases hq with
   |cells _ b c T hι hb hsz hone h=>
    have hd:∀d,d∈List.replicate n (D.sl [])->d= .sl []:=λ d hd=>Aa hd
    refine .row 1 _ b c T hι hb (by rw[qW]at hsz|-;omega) (λ d h=>by rw[hd d h];rfl) hone λ i d j e v hi hj hv=>?_
    have hdi:=hd d (uA hi);subst hdi;have hin:i<n:=by
     have:=(uB.1 hi).1;simpa using this
    rcases j with _|j
    ·simp only[D.cells,Bt,yI]at hj;subst hj;have:=h i .nilS v (by rw[gH,if_pos hin]) (by simpa using hv);cases this;exact .slnil none 0
    ·simp[D.cells]at hj
  ·simp only[upd,if_neg hp];exact hS.objs p
theorem Zyg {S:St}{L:List (Nat×PV)}{Fs:List Fam}{M:List (Nat×Ob)}:ZgP S L Fs M↔Ent S ⟨Zbz L,Zau Fs (Zap M)⟩:=Iff.rfl
attribute [irreducible] ZgP Zau fid Za4 Zfw
theorem PV.At.rn {w:World}{ι ι':Nat->Option Nat}{X:Nat->Prop}{g:Nat->Nat}(hι:∀o b,ι o=some b->ι' (g o)=some b)(hX:∀b,ownX ι' X b->ownX ι X b){p:PV}{v:Value}(h:PV.At w ι X p v):PV.At w ι' X (p.ren g) v:=by
 induction h with
 |d x v h=>simp only[PV.ren];exact .d _ _ (h.sub hX)
 |ref o sz off len cap capr b hb hl hc hm hs=>simp only[PV.ren];exact .ref _ sz off len cap capr b (hι o b hb) hl hc hm hs
 |ref0 o sz off base=>simp only[PV.ren];exact .ref0 _ _ _ base
 |ptr o sz i c b hb=>simp only[PV.ren];exact .ptr _ sz i c b (hι o b hb)
 |nilS=>simp only[PV.ren];exact .nilS
 |z0 base=>simp only[PV.ren];exact .z0 base
 |ag cs arr hsz hone _ ih=>
  simp only[PV.ren,PV.renL_eq];refine .ag _ arr (by simpa using hsz) hone λ j p v hj hv=>?_
  rw[uI]at hj;cases hq:cs[j]? with
  |none=>rw[hq]at hj;cases hj
  |some q=>rw[hq]at hj;cases hj;exact ih j q v hq hv
 |tup cs arr hsz _ ih=>
  simp only[PV.ren,PV.renL_eq];refine .tup _ arr (by simpa using hsz) λ j p v hj hv=>?_
  rw[uI]at hj;cases hq:cs[j]? with
  |none=>rw[hq]at hj;cases hj
  |some q=>rw[hq]at hj;cases hj;exact ih j q v hq hv
 |fn f cs arr hsz _ ih=>
  simp only[PV.ren,PV.renL_eq];refine .fn f _ arr (by simpa using hsz) λ j p v hj hv=>?_
  rw[uI]at hj;cases hq:cs[j]? with
  |none=>rw[hq]at hj;cases hj
  |some q=>rw[hq]at hj;cases hj;exact ih j q v hq hv
 |unk v=>simp only[PV.ren];exact .unk v
 |und=>simp only[PV.ren];exact .und
 |ab b=>simp only[PV.ren];exact .ab b
 |mp o b hb=>simp only[PV.ren];exact .mp _ b (hι o b hb)
 |ifp T o b hb=>simp only[PV.ren];exact .ifp T _ b (hι o b hb)
theorem Ob.At.rn {w:World}{ι ι':Nat->Option Nat}{X:Nat->Prop}{g:Nat->Nat}(hι:∀o b,ι o=some b->ι' (g o)=some b)(hX:∀b,ownX ι' X b->ownX ι X b){o o':Nat}(ho:ι' o'=ι o){ob:Ob}(h:Ob.At w ι X o ob):Ob.At w ι' X o' (ob.ren g):=by
 cases h with
 |dead h=>simp only[Ob.ren];exact .dead (ho.trans h)
 |gone=>simp only[Ob.ren];exact .gone
 |cells cs b c T hb hbb hsz hone hat=>
  simp only[Ob.ren];refine .cells _ b c T (ho.trans hb) hbb (by simpa using hsz) hone λ j p v hj hv=>?_
  rw[uI]at hj;cases hq:cs[j]? with
  |none=>rw[hq]at hj;cases hj
  |some q=>rw[hq]at hj;cases hj;exact(hat j q v hq hv).rn hι hX
 |row0 sz h=>simp only[Ob.ren];exact .row0 sz (ho.trans h)
 |row sz l b c T hb hbb hsz hcl hone hat=>simp only[Ob.ren];exact Ob.At.row (o:=o') (X:=X) sz l b c T (ho.trans hb) hbb hsz hcl hone λ i d j e v hi hj hv=>(hat i d j e v hi hj hv).sub hX
 |imap l b es clock hb hbb he=>simp only[Ob.ren];exact .imap l b es clock (ho.trans hb) hbb he
 |iter m k sn b bm hb hm hbb=>simp only[Ob.ren];exact .iter _ k sn b bm (ho.trans hb) (hι m bm hm) hbb
def mvG (o o2:Nat)(x:Nat):Nat:=if x=o then o2 else x
theorem ZiT {S:St}(o o2:Nat)(h2:S.objs o2= .dead)(hne:o≠o2)(hpass:o2<1000\/2000<=o2):
  Ent S ⟨λ t=>(S.env t).ren (mvG o o2),λ x=>if x=o then .gone else if x=o2 then(S.objs o).ren (mvG o o2)else(S.objs x).ren (mvG o o2)⟩:=by
 rw[Zg0];intro B X w0 m a w ι hS;have hd:ι o2=none:=hS.dead h2
 let ι':Nat->Option Nat:=λ x=>if x=o2 then ι o else ι x
 have e1:∀x,x≠o2->ι' x=ι x:=λ x hx=>if_neg hx
 have e2:ι' o2=ι o:=if_pos rfl;have hι:∀x b,ι x=some b->ι' (mvG o o2 x)=some b:=λ x b hb=>by
  by_cases c:x=o
  ·subst c;rw[mvG,if_pos rfl,e2];exact hb
  ·rw[mvG,if_neg c,e1 x (λ h=>by rw[h,hd]at hb;cases hb)];exact hb
 have hX:∀b,ownX ι' X b->ownX ι X b:=by
  rintro b (hb|⟨x,hb⟩)
  ·exact .inl hb
  ·by_cases c:x=o2
   ·rw[c,e2]at hb;exact .inr ⟨o,hb⟩
   ·rw[e1 x c]at hb;exact .inr ⟨x,hb⟩
 have live:∀x,(if x=o then Ob.gone else if x=o2 then(S.objs o).ren (mvG o o2)else(S.objs x).ren (mvG o o2))≠ .gone->(x=o2/\S.objs o≠ .gone)\/(x≠o2/\x≠o/\S.objs x≠ .gone):=by
  intro x hx;by_cases c:x=o
  ·rw[if_pos c]at hx;exact absurd rfl hx
  ·rw[if_neg c]at hx;by_cases c2:x=o2
   ·rw[if_pos c2]at hx;exact .inl ⟨c2,λ h=>hx (by rw[h];rfl)⟩
   ·rw[if_neg c2]at hx;exact .inr ⟨c2,c,λ h=>hx (by rw[h];rfl)⟩
 refine⟨ι',hS.size,hS.defers,hS.frame,hS.hB,hS.hXB,λ x y b fx fy ex ey=>?_,λ x b e=>?_,λ t=>(hS.env t).rn hι hX,λ x=>?_,λ x b hb=>?_⟩
 ·rcases live x fx with⟨rfl,hx⟩|⟨hx1,hx2,hx⟩<;>rcases live y fy with⟨rfl,hy⟩|⟨hy1,hy2,hy⟩
  ·rfl
  ·rw[e2]at ex;rw[e1 y hy1]at ey;exact absurd (hS.inj o y b hx hy ex ey).symm hy2
  ·rw[e2]at ey;rw[e1 x hx1]at ex;exact absurd (hS.inj x o b hx hy ex ey) hx2
  ·rw[e1 x hx1]at ex;rw[e1 y hy1]at ey;exact hS.inj x y b hx hy ex ey
 ·by_cases c:x=o2
  ·rw[c,e2]at e;exact hS.free o b e
  ·rw[e1 x c]at e;exact hS.free x b e
 ·show Ob.At w ι' X x (if x=o then Ob.gone else if x=o2 then(S.objs o).ren (mvG o o2)else(S.objs x).ren (mvG o o2));by_cases c:x=o
  ·rw[if_pos c];exact .gone
  ·rw[if_neg c];by_cases c2:x=o2
   ·rw[if_pos c2,c2];exact(hS.objs o).rn hι hX e2
   ·rw[if_neg c2];exact(hS.objs x).rn hι hX (e1 x c2)
 ·obtain⟨g1,g2,g3⟩:=hS.stay x b hb;exact⟨g1,(e1 x (by omega)).trans g2,g3⟩
attribute [go_sem] mvG
end Go.PS
