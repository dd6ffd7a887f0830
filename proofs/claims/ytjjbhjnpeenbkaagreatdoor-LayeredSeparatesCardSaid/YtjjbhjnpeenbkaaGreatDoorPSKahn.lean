/- Vertices taken away one by one, as long as no arc enters them: what the counts of arcs say. No program in sight. -/
import Derived.Test.YtjjbhjnpeenbkaaGreatDoorPSCmp
import Derived.Test.YtjjbhjnpeenbkaaGreatDoorPSBridge
import Derived.Stop.Joined
import Derived.Lib.LaidTab
import Derived.Stop.LaidErr
set_option linter.unusedSimpArgs false
set_option linter.unusedVariables false
set_option maxHeartbeats 16000000
namespace Go.Cy
def inC (l:List NA)(o:List Nat)(w:Nat):Nat:=(l.filter λ a=>decide (a.2=w)&& !decide (a.1∈o)).length
def hds (l:List NA)(v:Nat):List Nat:=(l.filter λ a=>decide (a.1=v)).map (·.2)
def occ (l:List Nat)(w:Nat):Nat:=(l.filter λ u=>decide (u=w)).length
theorem Zok (x:Nat)(l:List Nat)(w:Nat):occ (x::l) w=(if x=w then 1 else 0)+occ l w:=by
 simp only[occ,jP];by_cases c:x=w
 ·rw[if_pos (by simp[c]),if_pos c];simp;omega
 ·rw[if_neg (by simp[c]),if_neg c];simp
theorem Zzc {l:List NA}{o:List Nat}{w:Nat}:inC l o w=0↔∀a,a∈l->a.2=w->a.1∈o:=by
 simp only[inC,jN,List.filter_eq_nil_iff,uL,uF,yC,qC,not_and,Ar]
structure Kahn (n:Nat)(l:List NA)(q o:List Nat)(op:Nat->Nat):Prop where
 nd:(q++o).Nodup
 lt:∀v,v∈q++o->v<n
 num:∀w,w<n->op w=inC l o w
 zero:∀w,w<n->(w∈q++o↔op w=0)
 peel:ZfF l o.reverse
structure KahnI (n:Nat)(l:List NA)(q o:List Nat)(r:List Nat)(op:Nat->Nat):Prop where
 nd:(q++o).Nodup
 lt:∀v,v∈q++o->v<n
 num:∀w,w<n->op w=inC l o w+occ r w
 zero:∀w,w<n->(w∈q++o↔op w=0)
 peel:ZfF l o.reverse
theorem KahnI.done {n:Nat}{l:List NA}{q o:List Nat}{op:Nat->Nat}(h:KahnI n l q o [] op):Kahn n l q o op:=
 ⟨h.nd,h.lt,λ w hw=>by rw[h.num w hw];rfl,h.zero,h.peel⟩
theorem KahnI.pos {n:Nat}{l:List NA}{q o r:List Nat}{op:Nat->Nat}{w:Nat}(h:KahnI n l q o (w::r) op)(hw:w<n):0<op w:=by
 have:=h.num w hw;rw[Zok,if_pos rfl]at this;omega
theorem KahnI.keep {n:Nat}{l:List NA}{q o r:List Nat}{op op':Nat->Nat}{w:Nat}(h:KahnI n l q o (w::r) op)(hw:w<n)(h':∀u,u<n->op' u=if u=w then op w-1 else op u)(hne:op w≠1):KahnI n l q o r op':=by
 have hpos:=h.pos hw;refine⟨h.nd,h.lt,λ u hu=>?_,λ u hu=>?_,h.peel⟩
 ·have:=h.num u hu;rw[Zok]at this;rw[h' u hu];by_cases c:u=w
  ·subst c;rw[if_pos rfl]at this|-;omega
  ·rw[if_neg c];rw[if_neg (Ne.symm c)]at this;omega
 ·rw[h.zero u hu,h' u hu];by_cases c:u=w
  ·subst c;rw[if_pos rfl];omega
  ·rw[if_neg c]
theorem KahnI.push {n:Nat}{l:List NA}{q o r:List Nat}{op op':Nat->Nat}{w:Nat}(h:KahnI n l q o (w::r) op)(hw:w<n)(h':∀u,u<n->op' u=if u=w then op w-1 else op u)(he:op w=1){q':List Nat}(hq:q'.Perm (q++[w])):KahnI n l q' o r op':=by
 have hno:w∉q++o:=λ hc=>by have:=(h.zero w hw).1 hc;omega
 have hmem:∀u,u∈q'++o↔u∈q++o\/u=w:=λ u=>by
  simp only[yK,hq.mem_iff,yF,gL,Cf];constructor
  ·rintro((h|h)|h)
   ·exact .inl (.inl h)
   ·exact .inr h
   ·exact .inl (.inr h)
  ·rintro((h|h)|h)
   ·exact .inl (.inl h)
   ·exact .inr h
   ·exact .inl (.inr h)
 have hp:(q'++o).Perm (w::(q++o)):=by
  refine(List.Perm.append_right o hq).trans ?_;rw[qK];exact(Bc (a:=w) (l₁:=q) (l₂:=o))
 refine⟨hp.nodup_iff.2 (yW.2 ⟨hno,h.nd⟩),λ u hu=>?_,λ u hu=>?_,λ u hu=>?_,h.peel⟩
 ·rcases(hmem u).1 hu with h1|rfl
  ·exact h.lt u h1
  ·exact hw
 ·have:=h.num u hu;rw[Zok]at this;rw[h' u hu];by_cases c:u=w
  ·subst c;rw[if_pos rfl]at this|-;omega
  ·rw[if_neg c];rw[if_neg (Ne.symm c)]at this;omega
 ·rw[hmem,h' u hu];by_cases c:u=w
  ·subst c;rw[if_pos rfl];exact⟨λ _=>by omega,λ _=> .inr rfl⟩
  ·rw[if_neg c,<-h.zero u hu];exact⟨λ h=>h.resolve_right c, .inl⟩
theorem Kahn.fin {n:Nat}{l:List NA}{o:List Nat}{op:Nat->Nat}(h:Kahn n l [] o op)(hi:InN n l)(hl:∀a,a∈l->a.1≠a.2):¬o.length<n↔Acy l:=by
 constructor
 ·intro hlen;exact h.peel.all hi λ v hv=>qP.2 (nd_all (by simpa using h.nd) (λ u hu=>h.lt u (by simpa using hu)) (by omega) v hv)
 ·intro ha hlen;have hs:ZjB n l o.reverse:=by
   intro v hv hno hsrc;have hno':v∉[]++o:=by simpa using hno
   apply hno';rw[h.zero v hv,h.num v hv,Zzc];intro a ha h2;exact qP.1 (hsrc a ha h2 (by rw[<-h2];exact hl a ha))
  have hall:=stuck_all hi ha hs;have h2:n<=o.length:=by
   have hsub:∀{a b:List Nat},a.Nodup->(∀x,x∈a->x∈b)->a.length<=b.length:=by
    intro a
    induction a with
    |nil=>intro b _ _;simp
    |cons x a ih=>
     intro b hn hs;have hn':=yW.1 hn;have hx:=hs x (by simp);have:=ih (b:=b.erase x) hn'.2 λ y hy=>(zX (λ e=>hn'.1 (by rw[<-e];exact hy))).2 (hs y (uO _ hy))
     rw[jV hx]at this;have:=zH hx;simp;omega
   have:=hsub (a:=List.range n) (b:=o) kT λ v hv=>qP.1 (hall v (uZ.1 hv))
   simpa using this
  omega
end Go.Cy
namespace Go.PS
open Go Go.ChangeShapes Go.WideShapes Go.RowKit Go.Deep
theorem Zvd {P:Program}{w:World}{g:Nat}(hg:P.globalNamed "math/bits.deBruijn64tab" =some g)(h:Lib.TabIs P w "math/bits.deBruijn64tab" .u8 Zew):Zer (tabs P) w noX:=by
 intro q hq;rw[tabs,hg]at hq;obtain rfl:=uS.1 hq;have hc:=λ i hi=>h.cell hg i hi
 refine⟨?_,λ h=>h,λ j v hj=>?_⟩
 ·exact ZjG (hc 0 (by decide))
 ·have hl:=(uB.1 hj).1;rw[hc j hl,gW,hj];rfl
section
variable {H:Type}{enc:TypeId×Value->H}
theorem Zr9 {a:Assume}{C:Checked}{os:Os}{f:FuncId}{fn:Func}{s:ChangeSpec}{tb:TypeId}{L:List (String×DataW Unit)}
  (own:ownKnob C.prog.godebug=none)(started:os.Started)(noInit:C.prog.inits.idxOf? f=none)(hfn:C.prog.funcs[f]? =some fn)
  (witness:∃(w:World) (tape:Tape) (i:Input),w.os=os/\(w.forCall tape i).Shaped C.prog/\i.vars=[]/\Input.okWide C.prog (w.forCall tape i) .any w.heap.size f i/\
   ((s.pre enc C.prog fn [] false (w.forCall tape i).memory i.args/\laidMetH C.prog L (w.forCall tape i).memory)/\sizedMet enc C.prog fn (OpenSpec.ofChange s) false (w.forCall tape i).memory i.args)/\a.holds C.prog (lone (Frame.enter C.prog f i.args .normal) [] (w.forCall tape i)))
  (hl:laidOutB C.prog=true)(hpl:(fn.params.toList.all λ t=>Zdb C.prog 8 t&&C.prog.readableRec t&&decide (t<C.prog.types.size))=true)
  (hres:fn.resultTypes=#[tb])(hbool:C.prog.underlying tb=some .bool)(hvars:s.vars=[])
  (hs:∀ds:List (DataW H),ds.length=fn.params.size->s.fn H ds={results:=[.lit (.bool true)],args:=ds})
  (hcall:∀xs:List D,xs.length=fn.params.size->(∀(j:Nat) t x,fn.params[j]? =some t->xs[j]? =some x->Zjx C.prog t x)->Zaa C.prog f xs (.bool true))
  (htabs:∀w,laidMetH C.prog L w->Zer (tabs C.prog) w noX):
  ReturnsInHanded a C os f .any (λ w args=>(s.pre enc C.prog fn [] false w args/\laidMetH C.prog L w)/\sizedMet enc C.prog fn (OpenSpec.ofChange s) false w args) (s.post enc C.prog fn false true false false):=by
 refine returnsInHanded_of_change_and (X:=λ w _=>laidMetH C.prog L w) (λ _ _ _ hh h=>h.of_heap hh) own started noInit hfn witness ?_;intro W base' args ds gs before hval hW _ hwt hL _;have hW':=hW;obtain⟨p,q,hA,hV,rfl,_,_⟩:=hW;rw[hvars]at hV;obtain⟨rfl,rfl⟩:=trodVars_none hV;simp only[uX,uL,uF]at hpl;obtain⟨xs,h1,h2,h3,h4,h5⟩:=Zwz fn.params.toList args.toList ds p (λ t ht=>(hpl t ht).1.1) (λ j t v hj hv=>hval j t v (by simpa using hj) (by simpa using hv)) hA (λ j t d hj hd=>ZuH hwt (j:=j) (by rw[qE (uB.1 hj).1];exact hj) (by rw[yT];exact hd));have hc:=hcall xs (by simpa using h1) (λ j t x hj hx=>h4 j t x (by simpa using hj) hx);refine Calls.mono (hc.2 W noX args (λ b hb=>hb.elim) ⟨by simp at h1 h2;omega,λ j d v hj hv=>h5 j d v hj (by simpa using hv)⟩ (htabs W hL)) ?_;rintro e W' ⟨v,rfl,hv,hb⟩;refine⟨v,rfl,?_⟩;cases hv;have hlt:∀x∈p,x.block<W.heap.size:=λ x hx=>hW'.lt x (by simpa using hx)
 have hfn2:=hs ds (by simpa using h3);refine⟨ds,[],p++[],[],p,[],hW',?_,?_,?_,World.keptBut_mono (λ x hx=>⟨hx, .inr (.inl (by simpa using hx))⟩) (hb.frame (·∈p++[])),(λ h=>by cases h)⟩
 ·rw[yT,hfn2,hres];exact⟨[],[],⟨1,by simp[DataW.trod,Value.cells,hbool]⟩,rfl,rfl⟩
 ·rw[yT,hfn2];exact ZwA hl hb _ _ _ _ (λ t ht=>⟨(hpl t ht).1.2,(hpl t ht).2⟩) hlt hA
 ·rw[hvars,yT,hfn2];rfl
end
end Go.PS
