/- A region, in whatever order the model draws. -/
import Derived.Test.YtjjbhjnpeenbkaaGreatDoorPSRegion2
set_option linter.unusedSimpArgs false
set_option linter.unusedVariables false
set_option maxHeartbeats 16000000
namespace Go.PS
open Go
section
variable {P:Program}{own:Nat->Bool}{objs objs':Nat->Ob}{B X:Nat->Prop}{w0:W0}{w:World}{n:Nat}{S:St}{a:Act}{ι:Nat->Option Nat}{ops:Array Oper}
theorem JN {g:Nat->Nat}{U:Prop}:∀(xs Z:List PV),(∀o∈xs.flatMap (PV.refs objs 4),objs' o=objs o)->ku objs g U xs Z->ku objs' g U xs Z:=by
 intro xs
 induction xs with
 |nil=>intro Z _ h;cases Z with
       |nil=>trivial
       |cons=>exact h.elim
 |cons x xs Q=>
  intro Z V h;cases Z with
  |nil=>exact h.elim
  |cons p Z=>
   simp only[qM,yP]at V;obtain⟨T,R⟩:=uz (objs:=objs) (objs':=objs') 4 x (λ o Y=>V o (.inl Y));refine⟨?_,Q Z (λ o Y=>V o (.inr Y)) h.2⟩;rw[T,R];exact h.1
theorem CW {f:PV}{xs:List PV}{e:Eff}(s:fg e objs objs')(h:CallCondM P objs f xs e):CallCondM P objs' f xs e:=by
 obtain⟨h,V,args,M,z,r,g,fl,G,R,Y,U,H,I,C,N,F,K,T,E,Z,rfl⟩:=h;have O:∀o∈(xs++V).flatMap (PV.refs objs 4),objs' o=objs o:=s.1;refine⟨h,V,args,M,z,r,g,fl,G,JN _ _ O R,Y,U,H,I,C,N,F,λ q b=>?_,T,E,λ L=>⟨(Z L).1,λ x hx o J=>?_⟩,?_⟩
 ·rw[<-K q b];have Q:q.1∈z.map (·.1):=by rw[U];exact kQ b
  obtain⟨A,Q,he⟩:=uR.1 Q;have:=s.2 (g A.1,A.2.ren g) (uR.2 ⟨A,Q,rfl⟩);rw[<-he];exact this
 ·have:=(uz (objs:=objs) (objs':=objs') 4 x (λ o J=>O o (zJ.2 ⟨x,hx,J⟩))).2;rw[this]at J;exact(Z L).2 x hx o J
 ·rw[(zq (objs:=objs) (objs':=objs') 4 _ O).2]
theorem DJ {o:Oper}{S Z:St}{e:Eff}(Y:∀x∈o.op.operands,Z.ev x=S.ev x)(R:fg e S.objs Z.objs)(h:oe P own o S e):oe P own o Z e:=by
 obtain⟨V,op,ty,pos,q,gd⟩:=o;simp only at Y;have plain:(sem P own S.ev S.objs V op).1/\e=(sem P own S.ev S.objs V op).2->(sem P own Z.ev Z.objs V op).1/\e=(sem P own Z.ev Z.objs V op).2:=by
  rintro⟨U,rfl⟩;rw[RU Y U R];exact⟨U,rfl⟩
 cases op with
 |call c=>
  obtain⟨M,as,s⟩:=c;cases M with
  |value f=>
   have H:Z.ev f=S.ev f:=Y f (by simp[Op.operands,Call.operands]);have O:as.toList.map Z.ev=as.toList.map S.ev:=yK λ x K=>Y x (by simp[Op.operands,Call.operands];right;simpa using K)
   rcases h.symm with Q|⟨r,Q,rfl⟩
   ·refine .inr ?_;show CallCondM P Z.objs (Z.ev f) (as.toList.map Z.ev) e;rw[H,O];exact CW R Q
   obtain⟨U,N⟩:=zq (objs:=S.objs) (objs':=Z.objs) 4 (as.toList.map S.ev) R.1;refine .inl ⟨r,?_,?_⟩
   ·unfold qt at Q|-;rw[H,O,U,N];exact Q
   ·simp only[O,N]
  |builtin b=>exact plain h
  |invoke r m=>
   have z:Z.ev r=S.ev r:=Y r (by simp[Op.operands,Call.operands]);have O:as.toList.map Z.ev=as.toList.map S.ev:=yK λ x K=>Y x (by simp[Op.operands,Call.operands];right;simpa using K)
   obtain⟨g,recv,G,J,A,Q,rfl⟩:=h;refine⟨g,recv,G,J,?_,?_,rfl⟩
   ·show Inv P Z.objs (Z.ev r) m g recv G;rw[z];obtain⟨T,o,U,N⟩:=A;refine⟨T,o,U,N.imp id ?_⟩;rintro⟨t,F,E,C,rfl⟩;have L:Z.objs o=S.objs o:=R.1 o xB;have I:fy (tyi P t) Z.objs (.ptr o 0 0 0)=fy (tyi P t) S.objs (.ptr o 0 0 0):=by simp only[fy,L]
    exact⟨t,F,by rw[I];exact E,by rw[I];exact C,rfl⟩
   ·show CallCondM P Z.objs (.d (.fn g [])) (recv::as.toList.map Z.ev) J;rw[O];exact CW ⟨λ o L=>R.1 o (Az _ L),R.2⟩ Q
 |_=>exact plain h
theorem DL {all:List Oper}{o:Oper}{S V:St}{e:Eff}(Y:∀x∈o.op.operands,V.ev x=S.ev x)(T:∀j w,o.guard=some (j,w)->grd all V j=grd all S j)(R:fg e S.objs V.objs)
  (h:fN P own all o S e):fN P own all o V e:=by
 unfold fN at h|-;cases U:o.guard with
 |none=>rw[U]at h;exact DJ Y R h
 |some q=>
  obtain⟨j,Z⟩:=q;rw[U]at h;obtain⟨b,O,h⟩:=h;refine⟨b,(T j Z U).trans O,?_⟩;by_cases Q:b=some Z
  ·rw[if_pos Q]at h|-;exact DJ Y R h
  ·rw[if_neg Q]at h|-;exact h
def rh (ops:Array Oper)(x y:Oper)(Y Z:cH):Bool:=
 x.apart ops y&&Y.2.all (λ o=> !Z.1.contains o&& !Z.2.contains o)&&Z.2.all (λ o=> !Y.1.contains o)
theorem BP {S:St}{dst:Option Nat}{e:Eff}(t:Nat)(h:dst≠some t):(S.app dst e).env t=S.env t:=by
 unfold St.app;cases dst with
 |none=>rfl
 |some d=>exact if_neg (λ Z=>h (by rw[Z]))
theorem sZ {S:St}{dst:Option Nat}{e:Eff}(o:Nat)(h:o∉e.wr.map (·.1)):(S.app dst e).objs o=S.objs o:=sI _ _ o h
theorem D0 {ops:Array Oper}{S:St}{dst:Option Nat}{e:Eff}{y:Oper}(h:∀d,dst=some d->d∉y.looksAt ops):∀x∈y.op.operands,(S.app dst e).ev x=S.ev x:=by
 intro x Y;cases x with
 |tmp t=>
  refine BP t (λ Z=>h t Z ?_);simp only[Oper.looksAt,yP,List.mem_filterMap];exact .inl ⟨.tmp t,by simpa using Y,rfl⟩
 |_=>rfl
theorem Ez {ops:Array Oper}{S:St}{dst:Option Nat}{e:Eff}{y:Oper}(h:∀d,dst=some d->d∉y.looksAt ops):∀j w,y.guard=some (j,w)->grd ops.toList (S.app dst e) j=grd ops.toList S j:=by
 intro j U Y;unfold grd;simp only[qY];cases V:(ops[j]?).bind (·.dst)with
 |none=>rfl
 |some t=>
  simp only;rw[BP t];intro Z;refine h t Z ?_;simp only[Oper.looksAt,yP,Y]
  right
  simp only[V,Option.toList_some,uX]
theorem Ub {objs:Nat->Ob}{o:Nat}{Z:Ob}:∀(l:List (Nat×Ob)),o∉l.map (·.1)->wrs l (upd o Z objs)=upd o Z (wrs l objs):=by
 intro l
 induction l with
 |nil=>intro _;rfl
 |cons q l U=>
  intro h;simp only[uS,yI,not_or]at h;show upd q.1 q.2 (wrs l (upd o Z objs))=upd o Z (upd q.1 q.2 (wrs l objs));rw[U h.2]
  funext i
  simp only[upd];by_cases Y:i=q.1
  ·subst Y;rw[if_pos rfl,if_neg (λ V=>h.1 V.symm),if_pos rfl]
  ·rw[if_neg Y,if_neg Y]
theorem T9 :∀(Y Z:List (Nat×Ob)) (objs:Nat->Ob),(∀o∈Y.map (·.1),o∉Z.map (·.1))->wrs Z (wrs Y objs)=wrs Y (wrs Z objs):=by
 intro Y
 induction Y with
 |nil=>intro Z objs _;rfl
 |cons q Y U=>
  intro Z objs h;show wrs Z (upd q.1 q.2 (wrs Y objs))=upd q.1 q.2 (wrs Y (wrs Z objs));rw[Ub Z (h q.1 xB),U Z objs (λ o V=>h o (by simp only[uS,yI];exact .inr V))]
theorem JI {S:St}{Z Y:Option Nat}{U T:Eff}(Q:∀d,Z=some d->Y≠some d)(N:∀o∈U.wr.map (·.1),o∉T.wr.map (·.1)):
  (S.app Z U).app Y T=(S.app Y T).app Z U:=by
 unfold St.app;simp only
 congr 1
 ·cases Z with
  |none=>rfl
  |some R=>
   cases Y with
   |none=>rfl
   |some M=>
    have h:R≠M:=λ O=>Q R rfl (by rw[O])
    funext i
    simp only[upd];by_cases V:i=R
    ·subst V;rw[if_neg h,if_pos rfl,if_pos rfl]
    ·rw[if_neg V,if_neg V]
 ·exact T9 _ _ _ N
theorem swap {x y:Oper}{Y Z:Eff}{S:St}(I:fN P own ops.toList x S Y)(H:fN P own ops.toList y (S.app x.dst Y) Z)(O:rh ops x y Y.foot Z.foot=true):
  fN P own ops.toList y S Z/\fN P own ops.toList x (S.app y.dst Z) Y/\(S.app x.dst Y).app y.dst Z=(S.app y.dst Z).app x.dst Y:=by
 unfold rh at O;simp only[uN,Eff.foot,yL,yF]at O;obtain⟨⟨Q,L⟩,K⟩:=O;obtain⟨N,G,M⟩:=Oper.apart_spec Q;have w1:∀o∈Y.wr.map (·.1),o∉Z.rd/\o∉Z.wr.map (·.1):=by
  intro o h;have:=L o h;simp only[yV,qJ]at this;exact this
 have F:∀o∈Z.wr.map (·.1),o∉Y.rd:=by
  intro o h;have:=K o h;simpa using this
 have R:fg Z (S.app x.dst Y).objs S.objs:=
  ⟨λ o V=>(sZ o (λ h=>(w1 o h).1 V)).symm,λ q U=>(sZ q.1 (λ h=>(w1 q.1 h).2 (kQ U))).symm⟩
 have T:fg Y S.objs (S.app y.dst Z).objs:=
  ⟨λ o V=>sZ o (λ h=>F o h V),λ q U=>sZ q.1 (λ h=>(w1 q.1 (kQ U)).2 h)⟩
 exact⟨DL (λ q U=>(D0 N q U).symm) (λ j w J=>(Ez N j w J).symm) R H,DL (D0 M) (Ez M) T I,
  JI G (λ o V=>(w1 o V).2)⟩
def o5 (P:Program)(own:Nat->Bool)(ops:Array Oper)(E:Nat->Eff):List Nat->St->St->Prop
 |[],S,Y=>Y=S
 |i::Z,S,Y=>∃o,ops[i]? =some o/\fN P own ops.toList o S (E i)/\o5 P own ops E Z (S.app o.dst (E i)) Y
theorem Rz {all:List Oper}:∀(l:List Oper) (S U:St) (T:List cH),sS P own all l S U T->∃Y:List Eff,Y.length=l.length/\T=Y.map Eff.foot/\
  ∀(E:Nat->Eff) (k:Nat) (ops:Array Oper),ops.toList=all->(∀j o,l[j]? =some o->ops[k+j]? =some o)->(∀j e,Y[j]? =some e->E (k+j)=e)->o5 P own ops E (List.range' k l.length) S U:=by
 intro l
 induction l with
 |nil=>rintro S U T ⟨rfl,rfl⟩;exact⟨[],rfl,rfl,λ E k ops _ _ _=>rfl⟩
 |cons o O I=>
  rintro S U T ⟨e,N,M,L,rfl⟩;obtain⟨Y,K,rfl,J⟩:=I _ _ _ L;refine⟨e::Y,by simp[K],rfl,λ E k ops h Z Q=>?_⟩;simp only[uV,List.range'_succ];have V:E k=e:=Q 0 e rfl;refine⟨o,Z 0 o rfl,by rw[h,V];exact M,?_⟩;rw[V];exact J E (k+1) ops h (λ j q R=>by rw[show k+1+j=k+(j+1) by omega];exact Z (j+1) q (by simpa using R)) (λ j q R=>by rw[show k+1+j=k+(j+1) by omega];exact Q (j+1) q (by simpa using R))
theorem tr {E:Nat->Eff}{k:Nat}{ok:Oper}(J:ops[k]? =some ok):∀(pre Z:List Nat) (S Y:St),o5 P own ops E (pre++k::Z) S Y->(∀i∈pre,∀R,ops[i]? =some R->rh ops R ok (E i).foot (E k).foot=true)->
  fN P own ops.toList ok S (E k)/\o5 P own ops E (pre++Z) (S.app ok.dst (E k)) Y:=by
 intro pre
 induction pre with
 |nil=>
  rintro Z S Y ⟨o,h,V,U⟩ _;rw[J]at h;cases h;exact⟨V,U⟩
 |cons i pre I=>
  rintro Z S Y ⟨o,h,V,U⟩ T;obtain⟨M,L⟩:=I Z _ Y U (λ j K=>T j (uP _ K));obtain⟨Q,O,N⟩:=swap V M (T i xB o h);refine⟨Q,o,h,O,?_⟩;rw[<-N];exact L
theorem J4 (ops:Array Oper)(L:Nat->Prop)(E:∀k o,L k->ops[k]? =some o->∀e∈o.after,Region.binds .any e=true->e.on<k/\L e.on):
  ∀k o,ops[k]? =some o->(∀e∈o.after,Region.binds .any e=true->e.on<k/\L e.on)->∀i,((Region.before ops).getD k 0).testBit i=true->L i:=by
 have H:∀(l:List Oper) (m:Nat) (Z:Array Nat),Z.size=m->(∀j o,l[j]? =some o->ops[m+j]? =some o)->
   (∀k o,k<m->ops[k]? =some o->(∀e∈o.after,Region.binds .any e=true->e.on<k/\L e.on)->∀i,(Z.getD k 0).testBit i=true->L i)->
   ∀k o,k<m+l.length->ops[k]? =some o->(∀e∈o.after,Region.binds .any e=true->e.on<k/\L e.on)->
    ∀i,((l.foldl (λ Z o=>Z.push (o.after.foldl (λ s e=>if Region.binds .any e then s|||2^e.on|||Z.getD e.on 0 else s) 0)) Z).getD k 0).testBit i=true->L i:=by
  intro l
  induction l with
  |nil=>intro m Z _ _ Y k o O;simpa using Y k o (by simpa using O)
  |cons q l ih=>
   intro m Z hm b Y k o O;simp only[jG];refine ih (m+1) _ (by simp[hm]) (λ j o' C=>by rw[show m+1+j=m+(j+1) by omega];exact b (j+1) o' (by simpa using C)) ?_ k o (by simp at O;omega);intro k o O V G i R;by_cases N:k<m
   ·refine Y k o N V G i ?_;rw[qU,Array.getElem?_push,if_neg xA]at R;rw[qU];exact R
   ·have N:k=m:=xA;subst N;have hq:ops[k]? =some q:=by have:=b 0 q rfl;simpa using this
    rw[hq]at V;cases V;rw[qU,Array.getElem?_push,if_pos hm.symm]at R;simp only[yN]at R;rw[<-Array.foldl_toList]at R;have K:∀(M:List Edge) (s:Nat),(∀e∈M,Region.binds .any e=true->e.on<k/\L e.on)->(s.testBit i=true->L i)->(M.foldl (λ s e=>if Region.binds .any e then s|||2^e.on|||Z.getD e.on 0 else s) s).testBit i=true->L i:=by
     intro M
     induction M with
     |nil=>intro s _ F h;exact F h
     |cons e M z=>
      intro s I F h;simp only[jG]at h;refine z _ (λ e' Q=>I e' (uP _ Q)) ?_ h;intro U;split at U
      ·rename_i hb;simp only[Nat.testBit_or,gI]at U;obtain⟨A,J⟩:=I e xB hb;rcases U with(U|U)|U
       ·exact F U
       ·have:i=e.on:=by
         rw[Nat.testBit_two_pow]at U;simpa[eq_comm]using U
        rw[this];exact J
       ·have T:e.on<ops.size:=by
         have:=(gM.1 hq).1;omega
        exact Y e.on ops[e.on] A (yC T) (E e.on _ J (yC T)) i U
      ·exact F U
    exact K _ 0 (λ e Q=>G e (by simpa using Q)) xB R
 intro k o V G i R;unfold Region.before at R;rw[<-Array.foldl_toList]at R;have O:=(gM.1 V).1;exact H ops.toList 0 #[] rfl (λ j o' C=>by simpa using C) (λ k o O=>xA) k o (by simpa using O) V G i R
def oL (n:Nat)(ops:Array Oper)(Z:Bool)(Y:List cH):Bool:=
 ops.toList.all (Oper.plain n)&&
 (!Z||(ops.toList.zipIdx.all (λ q=>q.1.after.toList.all λ e=> !Region.binds .any e||decide (e.on<q.2))&&
  (List.range ops.size).all λ k=>(List.range k).all λ i=>((Region.before ops).getD k 0).testBit i||(match ops[i]?,ops[k]? with
   |some x,some y=>rh ops x y (Y.getD i ([],[])) (Y.getD k ([],[]))
   |_,_=>false)))
end
section
variable {P:Program}{own:Nat->Bool}{B X:Nat->Prop}{w0:W0}{w:World}{n:Nat}{S:St}{a:Act}{ι:Nat->Option Nat}{ops:Array Oper}
def left (ops:Array Oper)(listed:Array Bool):List Nat:=(List.range ops.size).filter λ i=> !listed.getD i true
theorem Fc (listed:Array Bool):(left ops listed).Pairwise (·<·):=Cq _ zB
theorem rL {listed:Array Bool}{i:Nat}:i∈left ops listed↔i<ops.size/\listed.getD i true=false:=by
 simp[left]
theorem JH (htb:w0.tabs=tabs P)(E:Nat->Eff){Sf:St}{Q:Exit->Act->World->Prop}(hpl:∀o∈ops.toList,Oper.plain n o=true)
  (U:∀k o,ops[k]? =some o->∀e∈o.after,Region.binds .any e=true->e.on<k)
  (G:∀k i x y,i<k->ops[i]? =some x->ops[k]? =some y->((Region.before ops).getD k 0).testBit i=true\/rh ops x y (E i).foot (E k).foot=true)
  (hQ:∀a' w' b,Hold B X w0 n Sf a' w' b->Q .normal a' w'):
  ∀(Z:Nat) (listed:Array Bool) (S:St) (a:Act) (w:World) (ι:Nat->Option Nat),listed.size=ops.size->(left ops listed).length<=Z->
   (∀k o,listed.getD k true=true->ops[k]? =some o->∀e∈o.after,Region.binds .any e=true->listed.getD e.on false=true)->
   o5 P own ops E (left ops listed) S Sf->Hold B X w0 n S a w ι->wpAny P .any ops Q Z listed a w:=by
 intro Z;have V:∀(listed:Array Bool) (i:Nat),i<listed.size->listed.getD i true=listed.getD i false:=λ listed i L=>by simp[Array.getD,L]
 have ready_sub:∀(listed:Array Bool) (i:Nat),i∈Region.ready .any ops listed->i∈left ops listed/\∀o,ops[i]? =some o->∀e∈o.after,Region.binds .any e=true->listed.getD e.on false=true:=by
  intro listed i L;simp only[Region.ready,Ay,yD,uN,yL]at L;refine⟨rL.2 ⟨L.1,L.2.1⟩,λ o ho e O T=>?_⟩;have h:=L.2.2;rw[ho]at h;simp only[qB,yN,kA]at h;have:=h e O;rw[T]at this;simpa using this
 induction Z with
 |zero=>
  intro listed S a w ι K hl H s hS;have h0:left ops listed=[]:=qT xA;rw[h0]at s;cases s;refine⟨?_,hQ _ _ _ hS⟩;rw[List.eq_nil_iff_forall_not_mem];intro i L;have:=(ready_sub listed i L).1;rw[h0]at this;cases this
 |succ Z ih=>
  intro listed S a w ι K hl H s hS;refine⟨λ hnil=>?_,λ i L=>?_⟩
  ·cases hL:left ops listed with
   |nil=>rw[hL]at s;cases s;exact hQ _ _ _ hS
   |cons k rest=>
    exfalso;have hk:k∈left ops listed:=by rw[hL];simp
    obtain⟨C,hk2⟩:=rL.1 hk;have:k∈Region.ready .any ops listed:=by
     simp only[Region.ready,Ay,yD,uN,yL];refine⟨C,hk2,?_⟩;rw[yC C];simp only[qB,yN,kA];intro e O;cases T:Region.binds .any e with
     |false=>rfl
     |true=>
      have z:=U k _ (yC C) e O T;have hnm:e.on∉left ops listed:=by
       intro hm;rw[hL]at hm;rcases yI.1 hm with h|h
       ·omega
       ·have hs:=Fc (ops:=ops) listed;rw[hL]at hs;have:=(zK.1 hs).1 _ h;omega
      rw[rL]at hnm;have h1:listed.getD e.on true=true:=by
       cases hq:listed.getD e.on true with
       |true=>rfl
       |false=>exact absurd ⟨xA,hq⟩ hnm
      simpa[<-V listed e.on xA]using h1
    rw[hnil]at this;cases this
  ·obtain⟨J,I⟩:=ready_sub listed i L;obtain⟨hi1,hi2⟩:=rL.1 J;have Y:ops[i]? =some ops[i]:=yC hi1;obtain⟨pre,R,hL⟩:=List.append_of_mem J;have hs:=Fc (ops:=ops) listed;rw[hL]at hs s;have hs2:=gP.1 hs;have z:∀j∈pre,j<i:=λ j N=>hs2.2.2 j N i xB
   have hgt:∀j∈R,i<j:=λ j N=>(zK.1 hs2.2.1).1 j N
   obtain⟨hd,q⟩:=tr Y pre R S Sf s (λ j N oj hoj=>by
    rcases G i j oj _ (z j N) hoj Y with T|hc
    ·exfalso;have:=J4 ops (λ j=>listed.getD j false=true) (λ k o hk A e O T=>⟨U k o A e O T,H k o (by
       have hkk:k<listed.size:=by rw[K];exact(gM.1 A).1
       rw[V listed k hkk];exact hk) A e O T⟩) i _ Y (λ e O T=>⟨U i _ Y e O T,I _ Y e O T⟩) j T
     have hjm:j∈left ops listed:=by rw[hL];simp[N]
     obtain⟨hj1,hj2⟩:=rL.1 hjm;rw[V listed j xA]at hj2;rw[hj2]at this;cases this
    ·exact hc)
   have M:left ops (listed.setIfInBounds i true)=pre++R:=by
    have h1:left ops (listed.setIfInBounds i true)=(left ops listed).filter (λ j=>j != i):=by
     unfold left;rw[List.filter_filter];refine List.filter_congr (λ j N=>?_);simp only[yD]at N;simp only[qU,zR,K];by_cases F:i=j
     ·subst F;simp[hi1]
     ·have hne:(j != i)=true:=by simpa[De]using Ne.symm F
      simp[F,hne]
    rw[h1,hL,gO,kK];simp only[bne_self_eq_false,qK,jH]
    congr 1
    ·refine Cw.2 (λ j N=>?_);have:=z j N;simp only[De,ne_eq];omega
    ·refine Cw.2 (λ j N=>?_);have:=hgt j N;simp only[De,ne_eq];omega
   refine DM htb hS Y (hpl _ xB) hd (λ a' w' b h'=>?_);refine ih (listed.setIfInBounds i true) _ a' w' b (by simpa using K) ?_ ?_ ?_ h'
   ·rw[M];have:(left ops listed).length=pre.length+(R.length+1):=by rw[hL];simp
    simp only[uH];omega
   ·intro k o hk ho e O T;have key:listed.getD e.on false=true:=by
     by_cases hki:i=k
     ·subst hki;rw[Y]at ho;cases ho;exact I _ Y e O T
     ·refine H k o ?_ ho e O T;rw[qU,zR,if_neg hki]at hk;rw[qU];exact hk
    rw[qU,zR];split
    ·split<;>simp_all
    ·rw[qU]at key;exact key
   ·rw[M];exact q
theorem Tp (T:w0.tabs=tabs P)(E:Nat->Eff){R:St}{Q:Exit->Act->World->Prop}(U:∀o∈ops.toList,Oper.plain n o=true)(M:∀Y w' Z,Hold B X w0 n R Y w' Z->Q .normal Y w'):
  ∀(l:List Nat) (S:St) (a:Act) (w:World) (ι:Nat->Option Nat),o5 P own ops E l S R->Hold B X w0 n S a w ι->wpOps P ops Q l a w:=by
 intro l
 induction l with
 |nil=>rintro S a w ι h V;cases h;exact M _ _ _ V
 |cons i l J=>
  rintro S a w ι ⟨o,O,L,K⟩ V;rw[wpOps_cons];exact DM T V O (U o (by simpa using jJ O)) L (λ Y w' Z N=>J _ Y w' Z K N)
theorem QB (H:w0.tabs=tabs P)(ck:P.follows .mixedOrders=true){id:Nat}{Y:Bool}{K:St->List cH->Prop}{Q:Exit->Act->World->Prop}(hS:Hold B X w0 n S a w ι)
  (I:ao P own ops.toList ops.toList S [] K)(hK:∀G F,K G F->oL n ops Y F.reverse=true/\∀a' w' b,Hold B X w0 n G a' w' b->Q .normal a' w'):
  (Code.region id ops Y).wp P Q a w:=by
 obtain⟨G,F,hr,N⟩:=RA _ _ _ _ I;obtain⟨O,hQ⟩:=hK _ _ N;simp only[yS,zM]at O;obtain⟨M,C,rfl,q⟩:=Rz _ _ _ _ hr;have V:=q (λ i=>M.getD i default) 0 ops rfl (λ j o R=>by simpa using R) (λ j e R=>by simp[List.getD,R]);rw[<-List.range_eq_range']at V;simp only[Bv]at V C;simp only[oL,uN,yF]at O;obtain⟨J,L⟩:=O;cases Y with
 |false=>exact wp_region (Tp H _ J hQ _ S a w ι V hS)
 |true=>
  simp only[Dl,Cn,uN,yF,yD]at L;obtain⟨T,U⟩:=L;have Z:left ops (Array.replicate ops.size false)=List.range ops.size:=by
   unfold left;refine Cw.2 (λ j R=>?_);simp only[yD]at R;simp[Array.getD,R]
  have E:=hS.ext (w':={w with drawn:=w.drawn+1}) ⟨rfl,rfl,rfl,uI _,λ _ _=>rfl⟩;refine wp_region_any ck (JH (own:=own) H (λ i=>M.getD i default) J ?_ ?_ hQ ops.size _ S a _ ι xB (by rw[Z];simp) ?_ (by rw[Z];exact V) E)
  ·intro k o s e he hb;have:=T (o,k) (by
    rw[List.mem_zipIdx_iff_getElem?];simpa using s) e (by simpa using he)
   rw[hb]at this;simpa using this
  ·intro k i x y A hx hy;have N:=(gM.1 hy).1;have:=U k N i A;rw[hx,hy]at this;simp only[gI]at this;rcases this with h|h
   ·exact .inl h
   ·refine .inr ?_;have e1:∀j,j<ops.size->(M.map Eff.foot).getD j ([],[])=(M.getD j default).foot:=λ j R=>by
     have:j<M.length:=xA;simp[List.getD,this]
    rw[e1 i xA,e1 k N]at h;exact h
  ·intro k o N s;have z:=(gM.1 s).1;simp[Array.getD,z]at N
end
end Go.PS
