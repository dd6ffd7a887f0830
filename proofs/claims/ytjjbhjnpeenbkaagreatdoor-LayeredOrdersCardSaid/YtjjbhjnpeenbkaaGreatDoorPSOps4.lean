/- Binary operations. -/
import Derived.Test.YtjjbhjnpeenbkaaGreatDoorPSAt
import Derived.Laws.Strings
import Derived.Great.BuildSlice
set_option linter.unusedSimpArgs false
set_option linter.unusedVariables false
set_option maxHeartbeats 16000000
namespace Go.PS
open Go
section hold
variable {P:Program}{B X:Nat->Prop}{w0:W0}{w:World}{n:Nat}{S:St}{a:Act}{ι:Nat->Option Nat}{dst:Option Nat}{ty:TypeId}{pos:String}{af:Array Edge}{gd:Option (Nat×Bool)}
theorem Rs (op:BinOp)(t:TypeId)(x y:Operand)(p q:Int):(eqGuard op t x y (.int .i64 p) (.int .i64 q)).run P w= .ok () w:=by
 cases op<;>simp[eqGuard]
theorem Ht (op:BinOp)(t:TypeId)(x y:Operand)(p q:Bool):(eqGuard op t x y (.bool p) (.bool q)).run P w= .ok () w:=by
 cases op<;>simp[eqGuard]
theorem Rm (op:BinOp)(t:TypeId)(p q:Int)(Z:(j5 op p q).1):(binOp op t (.int .i64 p) (.int .i64 q)).run P w= .ok (j5 op p q).2 w:=by
 cases op
 case and=>rfl
 case or=>rfl
 case xor=>rfl
 case andNot=>rfl
 all_goals (simp[j5]at Z|-;simp[binOp,Op.intArith,Op.intDiv,Op.intCmp,Op.shift,IntKind.bits,Z])
 all_goals first
  |rfl
  |(intro h;exact absurd h xA)
  |(rw[qW];simp)
theorem Ry (op:BinOp)(t:TypeId)(p q:Int)(Y:op= .shl\/op= .shr)(Z:(j5 op p q).1):(binOp op t (.int .i64 p) (.int .u64 q)).run P w= .ok (j5 op p q).2 w:=by
 rcases Y with rfl|rfl
 all_goals (simp[j5]at Z|-;simp[binOp,Op.shift,IntKind.bits])
 all_goals (intro h;exact absurd h xA)
theorem Rn (op:BinOp)(t:TypeId)(p q:Int)(Z:(j6 op p q).1):(binOp op t (.int .u64 p) (.int .u64 q)).run P w= .ok (j6 op p q).2 w:=by
 cases op
 case and=>rfl
 case or=>rfl
 case xor=>rfl
 case andNot=>rfl
 case quo=>exact Z.elim
 case rem=>exact Z.elim
 all_goals (simp[j6]at Z|-;simp[binOp,Op.intArith,Op.intCmp,Op.shift,IntKind.bits,Z])
 all_goals first
  |rfl
  |(intro h;exact absurd h xA)
  |(rw[qW];simp)
theorem Rx (op:BinOp)(t:TypeId)(p q:Int)(Y:op= .shl\/op= .shr)(Z:(j6 op p q).1):(binOp op t (.int .u64 p) (.int .i64 q)).run P w= .ok (j6 op p q).2 w:=by
 rcases Y with rfl|rfl
 all_goals (simp[j6]at Z|-;simp[binOp,Op.shift,IntKind.bits])
 all_goals (intro h;exact absurd h xA)
theorem yt (op:BinOp)(t:TypeId)(x y:Operand)(k j:IntKind)(p q:Int):(eqGuard op t x y (.int k p) (.int j q)).run P w= .ok () w:=by
 cases op<;>simp[eqGuard]
theorem CG (op:BinOp)(p q:Int):(j6 op p q).2.oneCell'=true:=by cases op<;>rfl
theorem m8 {k:IntKind}{m:Int}{v:Value}(h:PV.At w ι X (.d (.sc (.int k m))) v):v= .int k m:=by
 cases h with
 |d _ _ h=>cases h;rfl
theorem rm {s:ByteArray}{v:Value}(h:PV.At w ι X (.d (.sc (.string s))) v):v= .string s:=by
 cases h with
 |d _ _ h=>cases h;rfl
theorem CF (op:BinOp)(p q:Int):(j5 op p q).2.oneCell'=true:=by cases op<;>rfl
theorem PV.At.agg {p:PV}{v:Value}{cs:List PV}(h:PV.At w ι X p v)(T:p.agg?=some cs):
  ∃arr,v= .agg arr/\arr.size=cs.length/\∀(j:Nat) q u,cs[j]? =some q->arr[j]? =some u->PV.At w ι X q u:=by
 cases h with
 |ag Y arr Z V h=>cases T;exact⟨arr,rfl,Z,h⟩
 |d x v h=>
  cases h with
  |ag Y arr Z V h=>
   cases T;refine⟨arr,rfl,by simpa using Z,λ j q u U Q=>?_⟩;rw[uJ]at U;cases R:Y[j]? with
   |none=>rw[R]at U;cases U
   |some d=>rw[R]at U;cases U;exact .d _ _ (h j d u R Q)
  |_=>cases T
 |_=>cases T
theorem Rq {xs U:Array Value}{cs Y:List PV}(hx:xs.size=cs.length)(hy:U.size=Y.length)
  (h1:∀(j:Nat) q u,cs[j]? =some q->xs[j]? =some u->PV.At w ι X q u)(h2:∀(j:Nat) q u,Y[j]? =some q->U[j]? =some u->PV.At w ι X q u)(d:Nat):
  ∀(O:List Field) (k:Nat) (t:Bool),sa P k O=true->O.length+k=cs.length->lL (cs.drop k) (Y.drop k)=some t->
   (Op.eqFields (d+1) xs U O).run P w= .ok t w:=by
 intro O
 induction O with
 |nil=>
  intro k t _ H Z;have I:cs.drop k=[]:=by apply kZ;simp at H;omega
  rw[I]at Z;cases hd:Y.drop k with
  |nil=>rw[hd]at Z;cases Z;rfl
  |cons q r=>rw[hd]at Z;simp[lL]at Z
 |cons f O ih=>
  intro k t G H Z;simp only[sa,uN,De,ne_eq,zZ]at G;obtain⟨⟨⟨hn,ho⟩,Q⟩,G⟩:=G;have I:k<cs.length:=by simp at H;omega
  have A:cs.drop k=cs[k]::cs.drop (k+1):=qV I;rw[A]at Z;cases L:Y.drop k with
  |nil=>
   rw[L]at Z;cases T:cs[k]<;>rw[T]at Z<;>simp[lL]at Z
  |cons q r=>
   have K:k<Y.length:=by
    have:=gL List.length L;simp at this;omega
   have z:Y.drop k=Y[k]::Y.drop (k+1):=qV K;rw[z]at Z;have E:=h1 k cs[k] xs[k] (uT I) (yC xA);have C:=h2 k Y[k] U[k] (uT K) (yC xA);have b:xs[k]? =some xs[k]:=yC xA;have hyk:U[k]? =some U[k]:=yC xA;have R:(isAgg f.type).run P w= .ok false w:=by
    simp only[isAgg];cases T:P.underlying f.type with
    |none=>rw[T]at Q;cases Q
    |some F=>
     rw[T]at Q;simp only[Sem.run_bind,run_underlying T,Result.andThen_ok];cases F<;>simp at Q<;>rfl
   have px:(part f.type xs f.offset).run P w= .ok xs[k] w:=by simp[part,R,ho,b]
   have py:(part f.type U f.offset).run P w= .ok U[k] w:=by simp[part,R,ho,hyk]
   have V:∀(J:Bool) (M:Bool),(Op.equalIn (d+1) f.type xs[k] U[k]).run P w= .ok J w->lL (cs.drop (k+1)) (Y.drop (k+1))=some M->t=(J&&M)->
     (Op.eqFields (d+1) xs U (f::O)).run P w= .ok t w:=by
    intro J M hr s ht;simp only[Op.eqFields,ne_eq,hn,not_false_eq_true,if_true,Sem.run_bind,px,py,Result.andThen_ok,hr];cases J
    ·simp[ht]
    ·simp only[Dl,qK,jH];rw[ih (k+1) M G (by simp at H|-;omega) s,ht];simp
   generalize cs[k]=pk at Z E;generalize Y[k]=qk at Z C;generalize xs[k]=xk at E V;generalize U[k]=yk at C V;unfold lL at Z;split at Z
   ·rename_i h;cases h
   ·rename_i p1 J p2 r2 e1 e2;cases e1;cases e2;cases T:lL (cs.drop (k+1)) (Y.drop (k+1))with
    |none=>rw[T]at Z;cases Z
    |some M=>
     rw[T]at Z;cases Z;have:=cP E;subst this;have:=cP C;subst this;refine V _ M ?_ T rfl;cases N:P.underlying f.type with
     |none=>rw[N]at Q;cases Q
     |some F=>
      rw[N]at Q;cases F<;>simp at Q
      rw[run_equalIn_int w d f.type .i64 _ _ _ N]
      congr 1
   ·cases Z
theorem O9 {t:TypeId}(h:(tyi P t).peq=true):P.underlying t=some (.struct (P.fieldsOf t))/\sa P 0 (P.fieldsOf t).toList=true/\P.stoodInHeld t=false/\P.eqGuardType P.depth t=false/\(P.fieldsOf t).size=P.cellsOf t:=by
 simp only[tyi,Program.fieldsOf]at h|-;cases Z:P.underlying t with
 |none=>rw[Z]at h;simp at h
 |some d=>rw[Z]at h;cases d<;>simp at h|-;exact⟨h.1.1.1,h.1.1.2,h.1.2,h.2⟩
theorem Rr (w:World)(d:Nat)(T:TypeId)(base:Option Addr)(len cap:Nat){e:TypeId}(h:P.underlying T=some (.slice e)):
  (Op.equalIn (d+1) T (.slice base len cap) (.slice none 0 0)).run P w= .ok base.isNone w:=by
 cases base<;>simp[Op.equalIn,run_underlying h]
theorem Oe {p r:PV}{v:Value}(h:dZ p=some r)(R:PV.At w ι X p v):
  ∃base len cap,v= .slice base len cap/\PV.At w ι X r (.bool base.isNone)/\(r= .ab\/∃b,r= .bool b):=by
 cases R with
 |nilS=>simp only[dZ,yM]at h;subst h;exact⟨_,_,_,rfl, .d _ _ (.sc _ rfl), .inr ⟨_,rfl⟩⟩
 |z0 base=>simp only[dZ,yM]at h;subst h;exact⟨_,_,_,rfl, .ab _, .inl rfl⟩
 |ref0 o s Z base=>simp only[dZ,yM,Dc,if_true]at h;subst h;exact⟨_,_,_,rfl, .ab _, .inl rfl⟩
 |ref o s Z len cap Y b N T U L K=>
  simp only[dZ,yM]at h;split at h
  ·subst h;exact⟨_,_,_,rfl, .ab _, .inl rfl⟩
  ·subst h;exact⟨_,_,_,rfl, .d _ _ (.sc _ rfl), .inr ⟨_,rfl⟩⟩
 |d x v V=>
  cases V with
  |slnil base cap=>simp only[dZ,yM,gE,if_true]at h;subst h;exact⟨_,_,_,rfl, .ab _, .inl rfl⟩
  |sl l b Z cap s T U Q vals O M=>
   simp only[dZ,yM]at h;split at h
   ·subst h;exact⟨_,_,_,rfl, .ab _, .inl rfl⟩
   ·subst h;exact⟨_,_,_,rfl, .d _ _ (.sc _ rfl), .inr ⟨_,rfl⟩⟩
  |sc v O=>simp[dZ]at h
  |ag=>simp[dZ]at h
  |tup=>simp[dZ]at h
  |pt=>simp[dZ]at h
  |fn=>simp[dZ]at h
 |ptr=>simp[dZ]at h
 |ag=>simp[dZ]at h
 |tup=>simp[dZ]at h
 |fn=>simp[dZ]at h
 |unk=>simp[dZ]at h
 |und=>simp[dZ]at h
 |ab=>simp[dZ]at h
 |mp=>simp[dZ]at h
 |ifp=>simp[dZ]at h
theorem Om {r:PV}{b:Bool}(h:PV.At w ι X r (.bool b))(Z:r= .ab\/∃b,r= .bool b):PV.At w ι X (xu r) (.bool (!b)):=by
 rcases Z with rfl|⟨c,rfl⟩
 ·exact .ab _
 ·cases h with
  |d _ _ h=>cases h;exact .d _ _ (.sc _ rfl)
theorem Ro (op:BinOp)(t:TypeId)(p q:Int)(h:(pp op p q).1):(binOp op t (.int .u8 p) (.int .u8 q)).run P w= .ok (.bool (pp op p q).2) w:=by
 cases op<;>first|exact h.elim|rfl|(simp[binOp,Op.intCmp,pp];done)
theorem H3 (a b:ByteArray):(a.toList==b.toList)=decide (a=b):=by
 rw[ByteArray.toList_eq,ByteArray.toList_eq,qW,zZ,uG];refine⟨λ h=>?_,λ h=>by rw[h]⟩;obtain⟨⟨x⟩⟩:=a;obtain⟨⟨y⟩⟩:=b;simp only at h;rw[h]
theorem R4 (U:Hold B X w0 n S a w ι){op:BinOp}{T T':TypeId}{x y:Operand}(R:∀t,dst=some t->t<n)(hx:aZ x=true)(hy:aZ y=true)
  (Z:(nM op (tyi P T) (S.ev x) (S.ev y)).1):bC P B X w0 n ⟨dst, .binOp op T x y T',ty,pos,af,gd⟩ (S.app dst (nM op (tyi P T) (S.ev x) (S.ev y)).2) a w:=by
 have M:=U.ev hx;have Q:=U.ev hy;generalize S.ev x=p at Z M;generalize S.ev y=q at Z Q;unfold nM at Z|-;split at Z
 ·cases G:dZ p with
  |none=>rw[G]at Z;exact Z.elim
  |some r=>
   rw[G]at Z;obtain⟨I,O⟩:=Z;simp only;rw[bH];obtain⟨b,len,cap,Y,J,C⟩:=Oe G M;have V:a.eval y= .slice none 0 0:=by
    generalize a.eval y=v at Q;cases Q;rfl
   have N:=Rr (P:=P) w 9999 T b len cap (gy I);have K:(eqGuard op T x y (.slice b len cap) (.slice none 0 0)).run P w= .ok () w:=by rcases O with rfl|rfl<;>simp[eqGuard]
   rcases O with rfl|rfl
   ·refine U.goes (v:= .bool b.isNone) R ?_ (by simpa using J);simp[execOp,Y,V,K,binOp,Op.equal,Op.maxDepth,N]
   ·refine U.goes (v:= .bool (!b.isNone)) R ?_ (by simpa using Om J C);simp[execOp,Y,V,K,binOp,Op.equal,Op.maxDepth,N]
 ·rename_i m k;simp only;rw[bH];have Y:=cP M;have V:=cP Q;exact U.goes R (by simp only[execOp,Y,V,Sem.run_bind,Rs,Result.andThen_ok,Rm op T m k Z,Sem.run_pure]) (.d _ _ (.sc _ (CF op m k)))
 ·rename_i m k;obtain⟨O,Z⟩:=Z;simp only;rw[bH];have Y:=cP M;have V:a.eval y= .int .u64 k:=by
   generalize a.eval y=v at Q;cases Q with
   |d _ _ h=>cases h;rfl
  have K:(eqGuard op T x y (.int .i64 m) (.int .u64 k)).run P w= .ok () w:=by rcases O with rfl|rfl<;>simp[eqGuard]
  exact U.goes R (by simp only[execOp,Y,V,Sem.run_bind,K,Result.andThen_ok,Ry op T m k O Z,Sem.run_pure]) (.d _ _ (.sc _ (CF op m k)))
 ·rename_i m k;simp only;rw[bH];have Y:=m8 M;have V:=m8 Q;exact U.goes R (by simp only[execOp,Y,V,Sem.run_bind,yt,Result.andThen_ok,Rn op T m k Z,Sem.run_pure]) (.d _ _ (.sc _ (CG op m k)))
 ·rename_i m k;obtain⟨O,Z⟩:=Z;simp only;rw[bH];have Y:=m8 M;have V:=m8 Q;exact U.goes R (by simp only[execOp,Y,V,Sem.run_bind,yt,Result.andThen_ok,Rx op T m k O Z,Sem.run_pure]) (.d _ _ (.sc _ (CG op m k)))
 ·rename_i m k;obtain⟨I,O⟩:=Z;simp only;rw[bH];have Y:=ri M;have V:=ri Q;have s:=MY I;have N:=run_equalIn_bool' (P:=P) w 9999 T m k s;rw[show(m==k)=decide (m=k) by cases m<;>cases k<;>rfl]at N;rcases O with rfl|rfl
  ·refine U.goes (v:= .bool (decide (m=k))) R ?_ (.d _ _ (.sc _ rfl));simp[execOp,Y,V,Ht,binOp,Op.equal,Op.maxDepth,N]
  ·refine U.goes (v:= .bool (!decide (m=k))) R ?_ (.d _ _ (.sc _ rfl));simp[execOp,Y,V,Ht,binOp,Op.equal,Op.maxDepth,N]
 ·rename_i m k;simp only;rw[bH];have Y:=m8 M;have V:=m8 Q;exact U.goes R (by simp only[execOp,Y,V,Sem.run_bind,yt,Result.andThen_ok,Ro op T m k Z,Sem.run_pure]) (.d _ _ (.sc _ rfl))
 ·rename_i m k;simp only;rw[bH];have Y:=rm M;have V:=rm Q;rcases Z with rfl|rfl
  ·refine U.goes (v:= .bool (decide (m=k))) R ?_ (.d _ _ (.sc _ rfl));simp[execOp,Y,V,eqGuard,binOp,Op.stringOp,H3]
  ·refine U.goes (v:= .bool (!decide (m=k))) R ?_ (.d _ _ (.sc _ rfl));simp[execOp,Y,V,eqGuard,binOp,Op.stringOp,H3]
 ·cases L:p.agg? with
  |none=>rw[L]at Z;exact Z.elim
  |some cs=>
   cases hds:q.agg? with
   |none=>rw[L,hds]at Z;exact Z.elim
   |some ds=>
    rw[L,hds]at Z;simp only at Z|-;cases z:lL cs ds with
    |none=>rw[z]at Z;exact Z.elim
    |some t=>
     rw[z]at Z;obtain⟨F,H,O⟩:=Z;simp only;rw[bH];obtain⟨xs,Y,hxs,h1⟩:=M.agg L;obtain⟨ys,V,hys,h2⟩:=Q.agg hds;obtain⟨s,E,A,K,hsz⟩:=O9 F;have J:=Rq (P:=P) hxs hys h1 h2 9998 (P.fieldsOf T).toList 0 t E (by simp only[tyi]at H;simp;omega) (by simpa using z);have N:=run_equalIn_struct (P:=P) w 9999 T xs ys s A;rw[J]at N;rcases O with rfl|rfl
     ·refine U.goes (v:= .bool t) R ?_ (.d _ _ (.sc _ rfl));simp[execOp,Y,V,run_eqGuard_agg w _ T _ _ xs ys K,binOp,Op.equal,Op.maxDepth,N]
     ·refine U.goes (v:= .bool (!t)) R ?_ (.d _ _ (.sc _ rfl));simp[execOp,Y,V,run_eqGuard_agg w _ T _ _ xs ys K,binOp,Op.equal,Op.maxDepth,N]
end hold
section hold
variable {P:Program}{B X:Nat->Prop}{w0:W0}{w:World}{n:Nat}{S:St}{a:Act}{ι:Nat->Option Nat}{dst:Option Nat}{ty:TypeId}{pos:String}{af:Array Edge}{gd:Option (Nat×Bool)}
theorem Hold.dead (h:Hold B X w0 n S a w ι){t:Nat}(Z:S.objs t= .dead):ι t=none:=by
 have:=h.objs t;rw[Z]at this;cases this;assumption
theorem Hold.alloc (h:Hold B X w0 n S a w ι){t:Nat}(M:S.objs t= .dead)(w':World)(Q:w'.os=w.os)(Y:w'.tape=w.tape)(U:w'.output=w.output)
  (O:w'.heap.size=w.heap.size+1)(V:∀b,b<w.heap.size->w'.heap[b]? =w.heap[b]?)(N:Ob)
  (R:Ob.At w' (upd t (some w.heap.size) ι) X t N):
  Hold B X w0 n {env:=S.env,objs:=upd t N S.objs} a w' (upd t (some w.heap.size) ι):=
 h.change none t N (upd t (some w.heap.size) ι) w' Q Y U xA (λ L T=>if_neg T) (λ b Z=>by rw[h.dead M]at Z;cases Z) (λ b Z=>by cases Z) (λ b Z _=>V b Z)
  (λ b Z=>by rw[upd,if_pos rfl]at Z;cases Z;exact⟨.inr (.inl (uI _)),xA⟩) R
theorem PV.At.alloc (h:Hold B X w0 n S a w ι){t:Nat}(T:S.objs t= .dead){w':World}
  (Y:∀b,b<w.heap.size->w'.heap[b]? =w.heap[b]?){p:PV}{v:Value}(Q:PV.At w ι X p v):PV.At w' (upd t (some w.heap.size) ι) X p v:=by
 have R:=h.dead T;refine Q.move (λ o b Z=>?_) (λ b Z=>?_) (λ b Z _=>Y b Z)
 ·have U:o≠t:=λ V=>by rw[V,R]at Z;cases Z
  exact⟨by rw[upd,if_neg U];exact Z,by simp only[bsz,Y b (h.free o b Z).2]⟩
 ·rcases Z with Z|⟨o,Z⟩
  ·exact .inl (.inl Z)
  ·by_cases V:o=t
   ·subst V;rw[upd,if_pos rfl]at Z;cases Z;exact .inr (uI _)
   ·rw[upd,if_neg V]at Z;exact .inl (.inr ⟨o,Z⟩)
theorem D.At.alloc (h:Hold B X w0 n S a w ι){t:Nat}(Y:S.objs t= .dead){w':World}
  (Z:∀b,b<w.heap.size->w'.heap[b]? =w.heap[b]?){p:D}{v:Value}(V:D.At w (ownX ι X) p v):D.At w' (ownX (upd t (some w.heap.size) ι) X) p v:=by
 have:=PV.At.alloc h Y Z (.d _ _ V);cases this;assumption
theorem Ex (O:Hold B X w0 n S a w ι){t:Nat}{o:Oper}(h:o.dst=some t)(H:t<n)(N:S.objs t= .dead)(cs:List PV)(arr:Array Value)(T:TypeId)
  (I:(execOp a.eval o).run P w= .ok (.value (.pointer (some ⟨w.heap.size,0,none⟩))) (w.alloc (.cells arr T)))
  (R:arr.size=cs.length)(Y:∀(j:Nat) (v:Value),arr[j]? =some v->v.oneCell'=true)(V:∀(j:Nat) p v,cs[j]? =some p->arr[j]? =some v->PV.At w ι X p v):
  bC P B X w0 n o (S.app o.dst {val:= .ptr t 0 0 0,wr:=[(t, .cells cs)]}) a w:=by
 have Z:∀b,b<w.heap.size->(w.alloc (.cells arr T)).heap[b]? =w.heap[b]? :=λ b K=>heap_alloc_old w _ K
 have U:Ob.At (w.alloc (.cells arr T)) (upd t (some w.heap.size) ι) X t (.cells cs):=
  .cells cs w.heap.size arr T (if_pos rfl) (heap_alloc_new w _) (Nat.le_of_eq R.symm) Y λ j p v J G=>(V j p v J G).alloc O N Z
 have L:=O.alloc N (w.alloc (.cells arr T)) rfl rfl rfl xB Z _ U;refine⟨_,_,upd t (some w.heap.size) ι, .inl I,?_⟩;have Q:=L.put (dst:=o.dst) (x:= .ptr t 0 0 0) (v:= .pointer (some ⟨w.heap.size,0*0+0,none⟩)) (λ u M=>by rw[h]at M;cases M;exact H)
  (.ptr t 0 0 0 w.heap.size (if_pos rfl))
 rw[h]at Q|-;exact Q
theorem RZ (O:Hold B X w0 n S a w ι){T:TypeId}(N:∀t,dst=some t->t<n)(U:(mI (tyi P T) S.objs dst).1):
  bC P B X w0 n ⟨dst, .alloc T,ty,pos,af,gd⟩ (S.app dst (mI (tyi P T) S.objs dst).2) a w:=by
 unfold mI at U|-;cases dst with
 |none=>exact U.elim
 |some t=>
  obtain⟨K,h⟩:=U;obtain⟨i,z,M,R,J,Z,L,Y⟩:=AE K;refine Ex (P:=P) (o:=⟨some t, .alloc T,ty,pos,af,gd⟩) O rfl (N t rfl) h _ z.cells T ?_ (by simp[Y]) (λ j v V=>?_) (λ j p v V Q=>?_)
  ·simp[execOp,Instr.alloc,zeroValue,typeInfo,M,R,newVar,newRow]
  ·exact Z v (by simpa using jJ V)
  ·rw[Y,uJ,qY,Q]at V;cases V;exact td (Z v (by simpa using jJ Q))
theorem R5 (Y:Hold B X w0 n S a w ι){T:TypeId}{x:Operand}(Q:∀t,dst=some t->t<n)(N:aZ x=true)(Z:(mJ S.objs dst (S.ev x).cells?).1):
  bC P B X w0 n ⟨dst, .box T x,ty,pos,af,gd⟩ (S.app dst (mJ S.objs dst (S.ev x).cells?).2) a w:=by
 have O:=Y.ev N;unfold mJ at Z|-;cases dst with
 |none=>exact Z.elim
 |some t=>
  cases h:(S.ev x).cells? with
  |none=>rw[h]at Z;exact Z.elim
  |some M=>
   rw[h]at Z;obtain⟨V,U,R⟩:=O.cells h;exact Ex (P:=P) (o:=⟨some t, .box T x,ty,pos,af,gd⟩) Y rfl (Q t rfl) Z _ (a.eval x).cells T (by simp[execOp,Instr.box,newVar,newRow]) V U R
theorem ry {Z:Type}(cs:List Z)(c:Nat)(xs:List Z)(h:c+xs.length<=cs.length)(j:Nat):
  (dI cs c xs)[j]? =if j<c then cs[j]? else if j<c+xs.length then xs[j-c]? else cs[j]? :=by
 unfold dI;rw[qG,jL];simp only[yA,jF (show c<=cs.length by omega)];split
 ·rw[jN (by assumption)]
 ·rw[jL];split
  ·rw[if_pos xA]
  ·rw[if_neg xA,gC]
   congr 1;omega
theorem un (w:World)(g:Nat)(cs:Array Value):(w.setRow g cs).heap.size=w.heap.size:=by simp[World.setRow]
theorem lC (arr:Array Value)(p:Nat)(vs:List Value)(h:p+vs.length<=arr.size)(j:Nat):
  ((arr.toList.take p++vs++arr.toList.drop (p+vs.length)).toArray)[j]? =if j<p then arr[j]? else if j<p+vs.length then vs[j-p]? else arr[j]? :=by
 have:=ry arr.toList p vs (by simpa using h) j;simp only[dI]at this;rw[zG,this];simp only[qY]
theorem f4 (arr:Array Value)(p:Nat)(vs:List Value)(h:p+vs.length<=arr.size):((arr.toList.take p++vs++arr.toList.drop (p+vs.length)).toArray).size=arr.size:=by
 simp;omega
theorem Ey (N:Hold B X w0 n S a w ι){o:Oper}(U:o.dst=none){q b:Nat}{arr:Array Value}{T:TypeId}(Z:S.objs q≠ .gone)(Q:ι q=some b)(J:w.heap[b]? =some (.cells arr T (0,0)))
  (p:Nat)(vs:List Value)(R:p+vs.length<=arr.size)(K:Ob)
  (F:(execOp a.eval o).run P w= .ok .skip (w.setRow b (arr.toList.take p++vs++arr.toList.drop (p+vs.length)).toArray))
  (L:Ob.At (w.setRow b (arr.toList.take p++vs++arr.toList.drop (p+vs.length)).toArray) ι X q K):
  bC P B X w0 n o (S.app o.dst {val:= .unk,wr:=[(q,K)]}) a w:=by
 have I:=N.change (some b) q K ι (w.setRow b (arr.toList.take p++vs++arr.toList.drop (p+vs.length)).toArray) rfl rfl rfl xB (λ _ _=>rfl) (λ _ h=>h)
  (λ O Y=>by
   cases Y;exact⟨⟨q,Q⟩,λ E V G M=>V (N.inj E q b G Z M Q),by simp only[bsz,J,setRow_heap w b arr _ T (0,0) J,f4 arr p vs R]⟩)
  (λ O _ V=>setRow_other w b O _ (λ H=>V (by rw[H])))
  (λ O Y=>⟨.inl ⟨Y,Z⟩,by rw[un];exact(N.free q O Y).2⟩) L
 refine⟨undef,_,ι, .inr ⟨F,rfl⟩,?_⟩;rw[U];exact I
theorem PV.At.store (_hS:Hold B X w0 n S a w ι){q b:Nat}{arr Z:Array Value}{T:TypeId}(Q:ι q=some b)(O:w.heap[b]? =some (.cells arr T (0,0)))(R:Z.size=arr.size)
  {p:PV}{v:Value}(M:PV.At w ι X p v):PV.At (w.setRow b Z) ι X p v:=by
 refine M.move (λ o Y h=>⟨h,?_⟩) (λ Y h=> .inl h) (λ Y N U=>setRow_other w b Y _ (λ V=>U (.inr ⟨q,V▸Q⟩)));by_cases V:Y=b
 ·subst V;simp only[bsz,O,setRow_heap w Y arr _ T (0,0) O,R]
 ·simp only[bsz,setRow_other w b Y _ V]
theorem D.At.store (V:Hold B X w0 n S a w ι){q b:Nat}{arr Z:Array Value}{T:TypeId}(Y:ι q=some b)(U:w.heap[b]? =some (.cells arr T (0,0)))(h:Z.size=arr.size)
  {p:D}{v:Value}(R:D.At w (ownX ι X) p v):D.At (w.setRow b Z) (ownX ι X) p v:=by
 have:=PV.At.store V Y U h (.d _ _ R);cases this;assumption
theorem NM {vs:List PV}{Z:List D}(h:vs.mapM PV.asD=some Z):Z.length=vs.length/\∀(j:Nat) d,Z[j]? =some d->∃p,vs[j]? =some p/\p.asD=some d:=by
 induction vs generalizing Z with
 |nil=>simp at h;subst h;simp
 |cons p vs N=>
  simp only[kT]at h;cases V:p.asD with
  |none=>rw[V]at h;cases h
  |some d=>
   rw[V]at h;cases T:vs.mapM PV.asD with
   |none=>rw[T]at h;cases h
   |some r=>
    rw[T]at h;cases h;obtain⟨R,Q⟩:=N T;refine⟨by simp[R],λ j e Y=>?_⟩;cases j with
    |zero=>simp at Y;subst Y;exact⟨p,rfl,V⟩
    |succ j=>simp at Y;obtain⟨q,O,U⟩:=Q j e Y;exact⟨q,by simpa using O,U⟩
theorem PV.At.asD {p:PV}{v:Value}{d:D}(h:PV.At w ι X p v)(Z:p.asD=some d):D.At w (ownX ι X) d v:=by
 cases h with
 |d x v h=>cases Z;exact h
 |nilS=>cases Z;exact .slnil none 0
 |z0 b=>cases Z;exact .slnil b 0
 |_=>cases Z
theorem NX {x:D}{cs:List D}(Z:cs.length=x.cells.length)(h:∀d,cs=[d]->d.cells=[d]):(mkD x cs).cells=cs:=by
 unfold mkD;split
 ·rfl
 ·rename_i Y;have:cs.length=1:=by rw[Z];cases x<;>first|rfl|exact absurd rfl (Y _)
  match cs,this with
  |[d],_=>exact h d rfl
theorem Sz (A:Hold B X w0 n S a w ι){T:TypeId}{x y:Operand}(hdn:dst=none)(hx:aZ x=true)(hy:aZ y=true)
  (Q:(jv (tyi P T) S.objs (S.ev x) (S.ev y).cells?).1):bC P B X w0 n ⟨dst, .store T x y,ty,pos,af,gd⟩ (S.app dst (jv (tyi P T) S.objs (S.ev x) (S.ev y).cells?).2) a w:=by
 have hp:=A.ev hx;have hq:=A.ev hy;generalize S.ev x=p at Q hp;unfold jv at Q|-;split at Q
 ·rename_i o s i c vs q;obtain⟨hvl,hok,Q⟩:=Q;simp only;obtain⟨q1,q2,q3⟩:=hq.cells q;generalize hva:a.eval x=va at hp;cases hp with
  |ptr o s i c b U=>
   have hob:=A.objs o;generalize hgo:S.objs o=ob at hob Q;have L:∀v∈(a.eval y).cells.toList,v.oneCell'=true:=λ v Y=>by
    obtain⟨j,Z⟩:=qA Y;exact q2 j v (by simpa using Z)
   have O:(a.eval y).cells.toList.length=vs.length:=by simpa using q1
   have run:∀(arr:Array Value) (J:TypeId),w.heap[b]? =some (.cells arr J (0,0))->i*s+c+vs.length<=arr.size->
     (execOp a.eval ⟨dst, .store T x y,ty,pos,af,gd⟩).run P w= .ok .skip (w.setRow b (arr.toList.take (i*s+c)++(a.eval y).cells.toList++arr.toList.drop (i*s+c+(a.eval y).cells.toList.length)).toArray):=by
    intro arr J I hl;have hst:=run_storeCells_at P b (i*s+c) J (a.eval y).cells.toList 0 arr w I (by rw[O];omega) L;have hcs':(a.eval y).cells.size=P.cellsOf T:=by simp[tyi]at hvl;omega
    simp only[execOp,Instr.storeAt,hva,Instr.sureAddr,Sem.run_bind,Sem.run_pure,Result.andThen_ok,storeVar,Hu hok,hcs',ne_eq,not_true_eq_false,jH,hst,gX]
   cases hob with
   |dead h=>exact Q.elim
   |gone=>exact Q.elim
   |imap=>exact Q.elim
   |iter=>exact Q.elim
   |row0 sz' h=>rw[h]at U;cases U
   |cells cs b' arr J M I hsz R h=>
    rw[U]at M;cases M;simp only[su]at Q|-;have run:=run arr J I;generalize i*s+c=r at Q run|-;have hl:=Q;have H:r+vs.length<=arr.size:=xA;have V:r+(a.eval y).cells.toList.length<=arr.size:=by rw[O];exact H
    refine Ey (P:=P) (o:=⟨dst, .store T x y,ty,pos,af,gd⟩) A hdn (by rw[hgo];simp) U I r (a.eval y).cells.toList V _ (run H) ?_;refine .cells _ b _ J U (setRow_heap w b arr _ J (0,0) I) ?_ (λ j v Z=>?_) (λ j p v Z Y=>?_)
    ·rw[f4 _ _ _ V];simp[dI];omega
    ·rw[lC _ _ _ V]at Z;split at Z
     ·exact R j v Z
     ·split at Z
      ·exact L v (uA Z)
      ·exact R j v Z
    ·refine PV.At.store A U I (f4 _ _ _ V) ?_;rw[ry cs r vs hl]at Z;rw[lC _ _ _ V]at Y;simp only[O]at Y;split at Z
     ·rename_i N;rw[if_pos N]at Y;exact h j p v Z Y
     ·rename_i N;rw[if_neg N]at Y;split at Z
      ·rename_i G;rw[if_pos G]at Y;exact q3 (j-r) p v Z (by simpa using Y)
      ·rename_i G;rw[if_neg G]at Y;exact h j p v Z Y
   |row sz' l b' arr J M I hsz z R h=>
    rw[U]at M;cases M;simp only[su]at Q|-;cases hds:vs.mapM PV.asD with
    |none=>rw[hds]at Q;exact Q.elim
    |some E=>
     rw[hds]at Q;obtain⟨rfl,hi,hl⟩:=Q;have C:l[i]? =some l[i]:=uT hi;simp only[C,yN]at hl|-;obtain⟨hdl,hda⟩:=NM hds;have q:l[i].cells.length=s:=z _ (kJ hi);have hroom:i*s+s<=arr.size:=by
      have:(i+1)*s<=l.length*s:=yR _ hi;rw[qN]at this;omega
     have H:i*s+c+vs.length<=arr.size:=xA;have V:i*s+c+(a.eval y).cells.toList.length<=arr.size:=by rw[O];exact H
     have hat:∀(j:Nat) d v,E[j]? =some d->(a.eval y).cells[j]? =some v->D.At w (ownX ι X) d v:=λ j d v Z Y=>by
      obtain⟨p,hp,hpd⟩:=hda j d Z;exact(q3 j p v hp Y).asD hpd
     have hmk:(mkD l[i] (dI l[i].cells c E)).cells=dI l[i].cells c E:=by
      refine NX (by simp[dI];omega) (λ d hd=>?_);by_cases hz:E.length=0
      ·
       have h0:l[i].cells=[d]:=by
        rw[<-hd];unfold dI;have:E=[]:=qT hz;subst this;simp
       have hdi:l[i].cells[0]? =some d:=by rw[h0];rfl
       have hs1:s=1:=by rw[<-q,h0];rfl
       have N:i*s+0<arr.size:=xA;exact(h i _ 0 d _ C hdi (yC N)).single (R _ _ (yC N))
      ·have hlen1:(dI l[i].cells c E).length=1:=by rw[hd];rfl
       have hs1:l[i].cells.length=1:=by simp[dI]at hlen1;omega
       have hc0:c=0:=xA;have hd1:E.length=1:=xA;subst hc0;have:E=[d]:=by
        rw[<-hd];unfold dI;have:l[i].cells.drop (0+E.length)=[]:=kZ xA;rw[this];simp
       have hv0:(a.eval y).cells[0]? =some ((a.eval y).cells[0]'xA):=yC _;exact(hat 0 d _ (by rw[this];rfl) hv0).single (q2 0 _ hv0)
     refine Ey (P:=P) (o:=⟨dst, .store T x y,ty,pos,af,gd⟩) A hdn (by rw[hgo];simp) U I (i*s+c) (a.eval y).cells.toList V _ (run arr J I H) ?_;refine .row s _ b _ J U (setRow_heap w b arr _ J (0,0) I) ?_ (λ d hd=>?_) (λ j v Z=>?_) (λ F d j e v K Z Y=>?_)
     ·rw[f4 _ _ _ V];simpa using hsz
     ·rcases kL hd with hd|rfl
      ·exact z d hd
      ·rw[hmk];simp[dI];omega
     ·rw[lC _ _ _ V]at Z;split at Z
      ·exact R j v Z
      ·split at Z
       ·exact L v (uA Z)
       ·exact R j v Z
     ·refine D.At.store A U I (f4 _ _ _ V) ?_;rw[lC _ _ _ V]at Y;rw[O]at Y;by_cases hii:F=i
      ·subst hii;rw[jC hi]at K;cases K;rw[hmk,ry _ c E hl]at Z;split at Z
       ·rw[if_pos xA]at Y;exact h F _ j e v C Z Y
       ·rw[if_neg xA]at Y;split at Z
        ·rw[if_pos xA]at Y;exact hat (j-c) e v Z (by rw[<-qY];rw[show F*s+j-(F*s+c)=j-c by omega]at Y;exact Y)
        ·rw[if_neg xA]at Y;exact h F _ j e v C Z Y
      ·rw[jT (Ne.symm hii)]at K;have hjs:j<s:=by
        have:=(uB.1 Z).1;rw[z d (uA K)]at this;exact this
       have hout:F*s+j<i*s+c\/i*s+c+vs.length<=F*s+j:=by
        rcases Nat.lt_or_gt_of_ne hii with N|hgt
        ·left
         have:(F+1)*s<=i*s:=yR _ N;rw[qN]at this;omega
        ·right
         have:(i+1)*s<=F*s:=yR _ hgt;rw[qN]at this;omega
       rcases hout with ho|ho
       ·rw[if_pos ho]at Y;exact h F d j e v K Z Y
       ·rw[if_neg xA,if_neg xA]at Y;exact h F d j e v K Z Y
 ·exact Q.elim
end hold
section hold
variable {P:Program}{B X:Nat->Prop}{w0:W0}{w:World}{n:Nat}{S:St}{a:Act}{ι:Nat->Option Nat}{dst:Option Nat}{ty:TypeId}{pos:String}{af:Array Edge}{gd:Option (Nat×Bool)}
theorem Mb (off:Nat):∀(vs:List Value) (k:Nat) (cs:Array Value),
  ((vs.zipIdx k).foldl (λ(cs:Array Value) (Z:Value×Nat)=>cs.setIfInBounds (off+Z.2) Z.1) cs).size=cs.size/\
  ∀j,off+k+vs.length<=cs.size->((vs.zipIdx k).foldl (λ(cs:Array Value) (Z:Value×Nat)=>cs.setIfInBounds (off+Z.2) Z.1) cs)[j]? =
   if j<off+k then cs[j]? else if j<off+k+vs.length then vs[j-(off+k)]? else cs[j]? :=by
 intro vs
 induction vs with
 |nil=>intro k cs;refine⟨rfl,λ j _=>?_⟩;simp;intro h U;omega
 |cons v vs Q=>
  intro k cs;obtain⟨h,U⟩:=Q (k+1) (cs.setIfInBounds (off+k) v);simp only[List.zipIdx_cons,jG];refine⟨by rw[h];simp,λ j T=>?_⟩;rw[U j (by simp at T|-;omega)];simp only[uV]at T|-;by_cases Y:j<off+k
  ·rw[if_pos xA,if_pos Y,Aj xA]
  ·by_cases R:j=off+k
   ·subst R;rw[if_pos xA,if_neg Y,if_pos xA,Bg xA];simp
   ·rw[if_neg xA,if_neg Y];by_cases V:j<off+k+(vs.length+1)
    ·rw[if_pos xA,if_pos V,show j-(off+k)=(j-(off+(k+1)))+1 by omega,jQ]
    ·rw[if_neg xA,if_neg V,Aj xA]
theorem Eo (off:Nat)(vs cs:Array Value)(h:off+vs.size<=cs.size):
  (vs.zipIdx.foldl (λ(cs:Array Value) (Z:Value×Nat)=>cs.setIfInBounds (off+Z.2) Z.1) cs).size=cs.size/\
  ∀j,(vs.zipIdx.foldl (λ(cs:Array Value) (Z:Value×Nat)=>cs.setIfInBounds (off+Z.2) Z.1) cs)[j]? =
   if j<off then cs[j]? else if j<off+vs.size then vs[j-off]? else cs[j]? :=by
 have:=Mb off vs.toList 0 cs;rw[<-Array.foldl_toList,Array.toList_zipIdx];refine⟨this.1,λ j=>?_⟩;rw[this.2 j (by simpa using h)];simp
def u7 (w:World)(ι:Nat->Option Nat)(X:Nat->Prop)(cs:List PV)(arr:Array Value):Prop:=
 arr.size=cs.length/\(∀(j:Nat) (v:Value),arr[j]? =some v->v.oneCell'=true)/\∀(j:Nat) p v,cs[j]? =some p->arr[j]? =some v->PV.At w ι X p v
theorem LO (pl:Nat->Option (Nat×Nat)):∀(O:List (Nat×PV)) (vs:List (Nat×Value)) (cs Y:List PV) (arr:Array Value),
  O.length=vs.length->(∀(k:Nat) p v,O[k]? =some p->vs[k]? =some v->p.1=v.1/\PV.At w ι X p.2 v.2)->u7 w ι X cs arr->pG pl cs O=some Y->
  ∃V,Instr.fill pl arr vs=some V/\u7 w ι X Y V:=by
 intro O
 induction O with
 |nil=>
  intro vs cs Y arr M _ U Z;cases vs with
  |nil=>cases Z;exact⟨arr,rfl,U⟩
  |cons _ _=>cases M
 |cons p O ih=>
  intro vs cs Y arr M F U Z;cases vs with
  |nil=>cases M
  |cons v vs=>
   obtain⟨i,x⟩:=p;obtain⟨i',y⟩:=v;obtain⟨H,N⟩:=F 0 _ _ rfl rfl;simp only at H N;subst H;simp only[pG]at Z;simp only[Instr.fill];cases G:pl i with
   |none=>rw[G]at Z;cases Z
   |some q=>
    obtain⟨R,sz⟩:=q;rw[G]at Z;cases T:x.cells? with
    |none=>rw[T]at Z;cases Z
    |some xs=>
     rw[T]at Z;simp only at Z|-;split at Z
     ·rename_i K;obtain⟨A,z,s⟩:=N.cells T;have J:R+y.cells.size<=arr.size:=by rw[A,U.1];omega
      rw[if_neg (by simp only[gI,uG,not_or];omega)];obtain⟨C,I⟩:=Eo R y.cells arr J;refine ih vs _ Y _ (by simpa using M) (λ k p v b hv=>F (k+1) p v (by simpa using b) (by simpa using hv)) ⟨?_,?_,?_⟩ Z
      ·rw[C,U.1];simp[dI];omega
      ·intro j u h;rw[I]at h;split at h
       ·exact U.2.1 j u h
       ·split at h
        ·exact z _ u h
        ·exact U.2.1 j u h
      ·intro j q u Q h;rw[I]at h;rw[ry cs R xs xA]at Q;split at Q
       ·rename_i L;rw[if_pos L]at h;exact U.2.2 j q u Q h
       ·rename_i L;rw[if_neg L]at h;split at Q
        ·rename_i E;rw[if_pos xA]at h;exact s _ q u Q h
        ·rename_i E;rw[if_neg xA]at h;exact U.2.2 j q u Q h
     ·cases Z
theorem R6 (G:Hold B X w0 n S a w ι){T:TypeId}{Z:Array (Nat×Operand)}(b:∀t,dst=some t->t<n)(hx:∀p∈Z.toList,aZ p.2=true)
  (Q:(nN (tyi P T) (Z.toList.map λ p=>(p.1,S.ev p.2))).1):
  bC P B X w0 n ⟨dst, .build T Z,ty,pos,af,gd⟩ (S.app dst (nN (tyi P T) (Z.toList.map λ p=>(p.1,S.ev p.2))).2) a w:=by
 unfold nN at Q|-;cases K:pG ((tyi P T).places[·]?) ((tyi P T).zero.map lF) (Z.toList.map λ p=>(p.1,S.ev p.2))with
 |none=>rw[K]at Q;exact Q.elim
 |some H=>
  rw[K]at Q;obtain⟨hz,Y⟩:=Q;simp only;rw[bH];obtain⟨i,z,hi,J,hzs,N,hne,M⟩:=AE hz;have s:u7 w ι X ((tyi P T).zero.map lF) z.cells:=by
   refine⟨by simp[M],λ j v L=>N v (by simpa using jJ L),λ j p v L R=>?_⟩;rw[M,uJ,qY,R]at L;cases L;exact td (N v (by simpa using jJ R))
  obtain⟨arr,U,V⟩:=LO ((tyi P T).places[·]?) (Z.toList.map λ p=>(p.1,S.ev p.2)) (Z.toList.map λ p=>(p.1,a.eval p.2)) _ H z.cells xB
   (λ k p v O R=>by
    rw[uJ]at O R;cases I:Z.toList[k]? with
    |none=>rw[I]at O;cases O
    |some q=>
     rw[I]at O R;cases O;cases R;exact⟨rfl,G.ev (hx q (uA I))⟩) s K
  have h:P.built T ((Z.map λ(i,x)=>(i,a.eval x))).toList=some arr:=by
   simp only[tyi]at Y U;unfold Program.built;cases E:P.underlying T with
   |none=>rw[E]at Y;cases Y
   |some C=>
    rw[E]at Y U;cases C<;>simp only at Y U<;>try (cases Y;done)
    rename_i A;simp only[hi,J];cases F:A.toList.mapM (λ f=>(P.info? f.type).map λ i=>(f.offset,i.size))with
    |none=>rw[F]at Y;cases Y
    |some pl=>
     rw[F]at U;simp only[yN]at U;simp only[Array.toList_map];rw[<-U]
     congr 1
     funext k
     simp
  have hr:=Go.run_build (P:=P) w T (Z.map λ(i,x)=>(i,a.eval x)) arr h;exact G.goes b (by simp only[execOp,Sem.run_bind,hr,Result.andThen_ok,Sem.run_pure]) (.ag H arr V.1 V.2.1 V.2.2)
def o4 (w:World)(Y:Nat->Prop)(sz:Nat)(l:List D)(arr:Array Value):Prop:=
 arr.size=l.length*sz/\(∀d,d∈l->d.cells.length=sz)/\(∀(j:Nat) (v:Value),arr[j]? =some v->v.oneCell'=true)/\
 ∀(i:Nat) d (j:Nat) e v,l[i]? =some d->d.cells[j]? =some e->arr[i*sz+j]? =some v->D.At w Y e v
theorem Lq (sz:Nat):∀(Q:List (Nat×Option D)) (vs:List (Nat×Value)) (l R:List D) (arr:Array Value),
  Q.length=vs.length->(∀(k:Nat) p v,Q[k]? =some p->vs[k]? =some v->p.1=v.1/\∀d,p.2=some d->D.At w (ownX ι X) d v.2)->o4 w (ownX ι X) sz l arr->mm sz l Q=some R->
  ∃Z,Instr.fill (λ i=>some (i*sz,sz)) arr vs=some Z/\o4 w (ownX ι X) sz R Z/\R.length=l.length:=by
 intro Q
 induction Q with
 |nil=>
  intro vs l R arr H _ Y U;cases vs with
  |nil=>simp[mm]at U;subst U;exact⟨arr,rfl,Y,rfl⟩
  |cons _ _=>cases H
 |cons p Q ih=>
  intro vs l R arr H hr Y U;cases vs with
  |nil=>cases H
  |cons v vs=>
   obtain⟨i,x⟩:=p;obtain⟨i',y⟩:=v;obtain⟨b,I⟩:=hr 0 _ _ rfl rfl;simp only at b I;subst b;cases x with
   |none=>simp[mm]at U
   |some d=>
    simp only[mm]at U;split at U
    ·rename_i T;obtain⟨N,J,E⟩:=T;obtain⟨h1,h2,h3⟩:=(I d rfl).cells (by rintro q rfl;simp[D.notTup]at E);have A:i*sz+sz<=arr.size:=by
      have:(i+1)*sz<=l.length*sz:=yR _ N;rw[qN]at this;rw[Y.1];omega
     simp only[Instr.fill];rw[if_neg (by simp only[gI,uG,not_or];omega)];obtain⟨f1,s⟩:=Eo (i*sz) y.cells arr xA
     suffices C:o4 w (ownX ι X) sz (l.set i d) (y.cells.zipIdx.foldl (λ(cs:Array Value) (z:Value×Nat)=>cs.setIfInBounds (i*sz+z.2) z.1) arr) by
      obtain⟨Z,e1,e2,e3⟩:=ih vs (l.set i d) R _ (by simpa using H) (λ k p v O hv=>hr (k+1) p v (by simpa using O) (by simpa using hv)) C U;exact⟨Z,e1,e2,by simpa using e3⟩
     refine⟨?_,?_,?_,?_⟩
     ·rw[f1,Y.1,yJ]
     ·intro e V;rcases kL V with V|rfl
      ·exact Y.2.1 e V
      ·exact J
     ·intro j u h;rw[s]at h;split at h
      ·exact Y.2.2.1 j u h
      ·split at h
       ·exact h2 _ u h
       ·exact Y.2.2.1 j u h
     ·intro k e j q u V K h;rw[s]at h;by_cases O:k=i
      ·subst O;rw[jC N]at V;cases V;have F:j<sz:=by rw[<-J];exact(uB.1 K).1
       rw[if_neg xA,if_pos xA]at h;exact h3 j q u K (by rw[show k*sz+j-k*sz=j by omega]at h;exact h)
      ·rw[jT (Ne.symm O)]at V;have F:j<sz:=by rw[<-Y.2.1 e (uA V)];exact(uB.1 K).1
       have L:k*sz+j<i*sz\/i*sz+sz<=k*sz+j:=by
        rcases Nat.lt_or_gt_of_ne O with M|G
        ·left
         have:(k+1)*sz<=i*sz:=yR _ M;rw[qN]at this;omega
        ·right
         have:(i+1)*sz<=k*sz:=yR _ G;rw[qN]at this;omega
       rcases L with ho|ho
       ·rw[if_pos ho]at h;exact Y.2.2.2 k e j q u V K h
       ·rw[if_neg xA,if_neg xA]at h;exact Y.2.2.2 k e j q u V K h
    ·cases U
theorem Kz {v:Value}{Y:Nat->Prop}(h:v.oneCell'=true):D.At w Y (cellD v) v:=by
 unfold cellD;split
 ·exact .slnil none 0
 ·exact .sc v h
theorem KA {v:Value}:(cellD v).cells=[cellD v]:=by
 unfold cellD;split<;>rfl
theorem Ox (agg:Bool)(vs:List Value)(h:agg=false->vs.length=1):(D.ofCells agg (vs.map cellD)).cells=vs.map cellD:=by
 unfold D.ofCells;cases agg with
 |true=>rfl
 |false=>
  have:=h rfl
  match vs,this with
  |[v],_=>exact KA
theorem I6 {z:Array Value}{sz m:Nat}{agg:Bool}(K:z.size=sz)(J:∀v∈z.toList,v.oneCell'=true)(E:sz≠0)(H:agg=false->sz=1){Y:Nat->Prop}:
  o4 w Y sz (List.replicate m (.ofCells agg (z.toList.map cellD))) ((Array.range (m*sz)).map (λ k=>z[k%z.size]!)):=by
 have R:(D.ofCells agg (z.toList.map cellD)).cells=z.toList.map cellD:=Ox agg z.toList (λ h=>by simp[K,H h]);refine⟨xB,λ d G=>?_,λ j v T=>?_,λ i d j e v M Q L=>?_⟩
 ·rw[Ag G,R];simp[K]
 ·rw[zH]at T;cases I:(Array.range (m*sz))[j]? with
  |none=>rw[I]at T;cases T
  |some q=>
   rw[I]at T;simp only[qB,yM]at T;subst T;have U:q%z.size<z.size:=Do _ xA;rw[getElem!_pos z _ U];exact J _ xB
 ·have Z:=(uB.1 M).1;simp only[yH]at Z;rw[gA]at M;split at M
  ·cases M;rw[R,uJ]at Q;cases N:z.toList[j]? with
   |none=>rw[N]at Q;cases Q
   |some q=>
    rw[N]at Q;cases Q;have V:=(uB.1 N).1;simp only[Bv]at V;have U:i*sz+j<m*sz:=by
     have:(i+1)*sz<=m*sz:=yR _ Z;rw[qN]at this;omega
    rw[zH,Array.getElem?_range]at L;simp only[U,if_true,qB,yM]at L;have O:(i*sz+j)%z.size=j:=by rw[K,Cx,Nat.mul_add_mod];exact Dm xA
    rw[O,getElem!_pos z j V]at L;rw[qY,yC V]at N;cases N;subst L;exact Kz (J _ xB)
  ·rename_i F;exact absurd Z F
end hold
section hold
variable {P:Program}{B X:Nat->Prop}{w0:W0}{w:World}{n:Nat}{S:St}{a:Act}{ι:Nat->Option Nat}{dst:Option Nat}{ty:TypeId}{pos:String}{af:Array Edge}{gd:Option (Nat×Bool)}
theorem Hold.ext (h:Hold B X w0 n S a w ι){w':World}(Y:RowKit.Below w.heap.size w w'):Hold B X w0 n S a w' ι:=by
 have V:∀o b,ι o=some b->ι o=some b/\bsz w' b=bsz w b:=λ o b Z=>⟨Z,by simp only[bsz,Y.block b (h.free o b Z).2]⟩
 have Q:∀b,ownX ι X b->ownX ι X b\/w.heap.size<=b:=λ b Y=> .inl Y
 have O:∀b,b<w.heap.size->¬ownX ι X b->w'.heap[b]? =w.heap[b]? :=λ b T _=>Y.block b T
 refine⟨h.size,h.defers,⟨Y.os.trans h.frame.os,Y.tape.trans h.frame.tape,Y.output.trans h.frame.output,gY h.frame.size Y.size,λ b N=>?_⟩,h.hB,h.hXB,h.inj,
  λ o b Z=>⟨(h.free o b Z).1,gS (h.free o b Z).2 Y.size⟩,λ t=>(h.env t).move V Q O,λ o=>?_,λ o b U=>?_⟩
 ·rw[<-h.frame.keep b N];exact Y.block b (gS (h.hB b N) h.frame.size)
 ·exact(h.objs o).move rfl (λ _ b Z=>Y.block b (h.free o b Z).2) V Q O
 ·obtain⟨M,R,L⟩:=h.stay o b U;exact⟨M,R,(V o b R).2.trans L⟩
theorem Hold.ownlt (h:Hold B X w0 n S a w ι){b:Nat}(Z:ownX ι X b):b<w.heap.size:=by
 rcases Z with Z|⟨o,Z⟩
 ·exact gS (h.hX b Z) h.frame.size
 ·exact(h.free o b Z).2
theorem zo {objs:Nat->Ob}:∀(k:Nat) (p:PV) (v:Value) (d:D),toD objs k p=some d->p.refs objs k=[]->PV.At w ι X p v->D.At w (ownX ι X) d v:=by
 intro k
 induction k with
 |zero=>intro p v d h;simp[toD]at h
 |succ k A=>
  intro p v d h R M;have T:∀(Y:List PV) (U:List D) (arr:Array Value),Y.mapM (toD objs k)=some U->Y.flatMap (PV.refs objs k)=[]->
    (∀(j:Nat) p v,Y[j]? =some p->arr[j]? =some v->PV.At w ι X p v)->U.length=Y.length/\∀(j:Nat) d v,U[j]? =some d->arr[j]? =some v->D.At w (ownX ι X) d v:=by
   intro Y
   induction Y with
   |nil=>intro U arr Z _ _;simp at Z;subst Z;simp
   |cons c Y F=>
    intro U arr Z G V;simp only[kT]at Z;cases H:toD objs k c with
    |none=>rw[H]at Z;cases Z
    |some e=>
     rw[H]at Z;cases N:Y.mapM (toD objs k)with
     |none=>rw[N]at Z;cases Z
     |some E=>
      rw[N]at Z;cases Z;simp only[qM,List.append_eq_nil_iff]at G;obtain⟨I,O⟩:=F E (arr.extract 1 arr.size) N G.2 (λ j p v L Q=>by
       rw[Array.getElem?_extract]at Q;split at Q
       ·exact V (j+1) p v (by simpa using L) (by rw[Nat.add_comm];exact Q)
       ·cases Q)
      refine⟨by simp[I],λ j d v L Q=>?_⟩;cases j with
      |zero=>simp at L;subst L;exact A c v e H G.1 (V 0 c v rfl Q)
      |succ j=>
       refine O j d v (by simpa using L) ?_;have C:=(gM.1 Q).1;rw[Array.getElem?_extract];rw[if_pos (by simp;omega),Nat.add_comm];exact Q
  cases p with
  |d x=>simp[toD]at h;subst h;cases M;assumption
  |nilS=>simp[toD]at h;subst h;cases M;exact .slnil none 0
  |z0=>simp[toD]at h;subst h;cases M;exact .slnil _ 0
  |unk=>simp[toD]at h
  |und=>simp[toD]at h
  |ab=>simp[toD]at h
  |mp _=>simp[toD]at h
  |ifp _ _=>simp[toD]at h
  |ref o s z len cap=>
   exfalso;simp only[PV.refs]at R;split at R<;>simp at R
  |ptr o s i c=>
   exfalso;simp only[PV.refs]at R;split at R<;>simp at R
  |ag Y=>
   simp only[toD]at h;cases Z:Y.mapM (toD objs k)with
   |none=>rw[Z]at h;cases h
   |some U=>
    rw[Z]at h;cases h;cases M with
    |ag _ arr J K V=>
     obtain⟨I,O⟩:=T Y U arr Z (by simpa[PV.refs]using R) V;exact .ag U arr xA K O
  |tup Y=>
   simp only[toD]at h;cases Z:Y.mapM (toD objs k)with
   |none=>rw[Z]at h;cases h
   |some U=>
    rw[Z]at h;cases h;cases M with
    |tup _ arr J V=>
     obtain⟨I,O⟩:=T Y U arr Z (by simpa[PV.refs]using R) V;exact .tup U arr xA O
  |fn f Y=>
   simp only[toD]at h;cases Z:Y.mapM (toD objs k)with
   |none=>rw[Z]at h;cases h
   |some U=>
    rw[Z]at h;cases h;cases M with
    |fn _ _ arr J V=>
     obtain⟨I,O⟩:=T Y U arr Z (by simpa[PV.refs]using R) V;exact .fn f U arr xA O
theorem qq {t:TypeId}(h:(tyi P t).zok=true):∃i z,P.info? t=some i/\i.zero=some z/\z.cells.size=(tyi P t).size/\i.size=(tyi P t).size/\i.bytes=(tyi P t).bytes/\(∀v∈z.cells.toList,v.oneCell'=true)/\(tyi P t).size≠0/\(tyi P t).zero=z.cells.toList/\((tyi P t).agg=false->(tyi P t).size=1\/True):=by
 obtain⟨i,z,Z,Y,T,U,V,R⟩:=AE h;exact⟨i,z,Z,Y,T,by simp[tyi,Program.cellsOf,Z],by simp[tyi,Program.bytesOf,Z],U,V,R,λ _=> .inr trivial⟩
theorem R8 (hS:Hold B X w0 n S a w ι){T:TypeId}{m:Nat}{ow:Bool}{V:Array (Nat×Operand)}(hd:∀t,dst=some t->t<n)(hx:∀p∈V.toList,aZ p.2=true)
  (U:(l7 S.objs dst ow (tyi P T) (tyi P (tyi P T).elem) m (V.toList.map λ p=>(p.1,S.ev p.2))).1):
  bC P B X w0 n ⟨dst, .buildSlice T m V,ty,pos,af,gd⟩ (S.app dst (l7 S.objs dst ow (tyi P T) (tyi P (tyi P T).elem) m (V.toList.map λ p=>(p.1,S.ev p.2))).2) a w:=by
 unfold l7 at U|-;generalize hls:mm (tyi P (tyi P T).elem).size (List.replicate m (.ofCells (tyi P (tyi P T).elem).agg ((tyi P (tyi P T).elem).zero.map cellD))) ((V.toList.map λ p=>(p.1,S.ev p.2)).map λ p=>(p.1,toD S.objs 4 p.2))=res at U|-;cases res with
 |none=>exact U.elim
 |some l=>
  simp only at U|-;have A:(tyi P T).kind=1/\(tyi P (tyi P T).elem).zok=true/\m*(tyi P (tyi P T).elem).size<=16777216/\((V.toList.map λ p=>(p.1,S.ev p.2)).map (·.2)).flatMap (PV.refs S.objs 4)=[]:=by
   cases ow with
   |true=>
    cases dst with
    |none=>exact U.elim
    |some t=>exact⟨U.1,U.2.1,U.2.2.1,U.2.2.2.1⟩
   |false=>exact U
  obtain⟨E,hz,hm,N⟩:=A;have hu:=gy E;obtain⟨ie,z,G,hiz,hzs,Q,_,hz1,hne,hzz,_⟩:=qq hz;have hagg:=I7 hz;generalize he:(tyi P (tyi P T).elem)=Z at*;have h0:o4 w (ownX ι X) Z.size (List.replicate m (.ofCells Z.agg (Z.zero.map cellD))) ((Array.range (m*Z.size)).map (λ k=>z.cells[k%z.cells.size]!)):=by
   rw[hzz];exact I6 hzs hz1 hne hagg
  obtain⟨arr,ha,h,C⟩:=Lq (w:=w) (ι:=ι) (X:=X) Z.size _ (V.toList.map λ p=>(p.1,a.eval p.2)) _ l _ xB
   (λ k p v E hv=>by
    rw[uJ]at hv;rw[gU,uJ]at E;cases hp:V.toList[k]? with
    |none=>rw[hp]at E;cases E
    |some q=>
     rw[hp]at E hv;cases E;cases hv;refine⟨rfl,λ d hdd=>?_⟩;have K:q∈V.toList:=uA hp;refine zo 4 (S.ev q.2) _ d hdd ?_ (hS.ev (hx q K));rw[Cd]at N;exact N _ (by simp only[gU,uR,Function.comp];exact⟨q,K,rfl⟩)) h0 hls
  simp only[yH]at C;have hpos:m*ie.size=0->False\/True:=λ _=> .inr trivial
  have hr:(Instr.buildSlice T m (V.map λ(i,x)=>(i,a.eval x))).run P w= .ok (.slice (some ⟨w.heap.size,0,none⟩) m m) (w.alloc (.cells arr (tyi P T).elem)):=by
   by_cases hm0:m=0
   ·subst hm0;simp only[jP]at ha;simp only[Instr.buildSlice,Sem.run_bind,run_underlying hu,Result.andThen_ok,sizeOf,typeInfo,G,run_program,Sem.run_pure,jP];have e0:∀f:Nat->Value,(Array.range 0).map f=#[]:=λ f=>Array.eq_empty_of_size_eq_zero xB
    rw[e0]at ha;simp[Q,newRow];rw[e0];have I:Instr.fill (λ i=>some (i*Z.size,Z.size)) #[] (V.toList.map λ(x:Nat×Operand)=>(x.1,a.eval x.2))=some arr:=ha;rw[I];simp
   ·have hz0:m*ie.size≠0:=by rw[Q];exact Nat.mul_ne_zero hm0 hne
    simp only[Instr.buildSlice,Sem.run_bind,run_underlying hu,Result.andThen_ok,sizeOf,typeInfo,G,run_program,Sem.run_pure,Sem.run_ite];rw[Q]at hz0|-;simp only[show¬(m*Z.size>2^24) by omega,jH,Sem.run_pure,Result.andThen_ok,hz0,Sem.run_bind,zeroValue,typeInfo,G,hiz,run_program];simp only[Array.toList_map];have I:Instr.fill (λ i=>some (i*Z.size,Z.size)) ((Array.range (m*Z.size)).map (λ k=>z.cells[k%z.cells.size]!)) (V.toList.map λ(i,x)=>(i,a.eval x))=some arr:=ha;rw[I];simp[newRow]
  have J:(execOp a.eval ⟨dst, .buildSlice T m V,ty,pos,af,gd⟩).run P w= .ok (.value (.slice (some ⟨w.heap.size,0,none⟩) m m)) (w.alloc (.cells arr (tyi P T).elem)):=by
   simp only[execOp,Sem.run_bind,hr,Result.andThen_ok,Sem.run_pure]
  have Y:∀b,b<w.heap.size->(w.alloc (.cells arr (tyi P T).elem)).heap[b]? =w.heap[b]? :=λ b hb=>heap_alloc_old w _ hb
  have L:m<=maxLen:=by
   have:m*1<=m*Z.size:=Nat.mul_le_mul_left _ xA;simp only[maxLen];omega
  cases ow with
  |false=>
   simp only[qK,jH];rw[bH];have hS':=hS.ext (w':=w.alloc (.cells arr (tyi P T).elem)) ⟨rfl,rfl,rfl,xB,Y⟩;refine⟨_,_,ι, .inl J,hS'.put hd (.d _ _ ?_)⟩;have:=D.At.sl (w:=w.alloc (.cells arr (tyi P T).elem)) (X:=ownX ι X) l w.heap.size 0 m Z.size xA L h.2.1 (λ i j=>arr.getD (i*Z.size+j) undef) (λ i d j c M s=>?_) (λ i d j c M s=>?_)
   ·rw[C]at this;exact this
   ·have F:=(uB.1 M).1;have hjl:j<Z.size:=by rw[<-h.2.1 d (uA M)];exact(uB.1 s).1
    have O:i*Z.size+j<arr.size:=by
     have:(i+1)*Z.size<=l.length*Z.size:=yR _ F;rw[qN]at this;rw[h.1];omega
    have hg:arr[i*Z.size+j]? =some arr[i*Z.size+j]:=yC O;have H:arr.getD (i*Z.size+j) undef=arr[i*Z.size+j]:=by simp[Array.getD,O]
    simp only[H];refine⟨?_,h.2.2.1 _ _ hg,λ ho=>?_⟩
    ·rw[yU,fE (heap_alloc_new w _),hg]
    ·have:=hS.ownlt ho;omega
   ·have F:=(uB.1 M).1;have hjl:j<Z.size:=by rw[<-h.2.1 d (uA M)];exact(uB.1 s).1
    have O:i*Z.size+j<arr.size:=by
     have:(i+1)*Z.size<=l.length*Z.size:=yR _ F;rw[qN]at this;rw[h.1];omega
    have hg:arr[i*Z.size+j]? =some arr[i*Z.size+j]:=yC O;have H:arr.getD (i*Z.size+j) undef=arr[i*Z.size+j]:=by simp[Array.getD,O]
    simp only[H];exact(h.2.2.2 i d j c _ M s hg).mono (λ b hb=> .inl hb) (λ b hb _=>Y b hb)
  |true=>
   cases dst with
   |none=>exact U.elim
   |some t=>
    have R:S.objs t= .dead:=U.2.2.2.2;simp only[if_true];have hob:Ob.At (w.alloc (.cells arr (tyi P T).elem)) (upd t (some w.heap.size) ι) X t (.row Z.size l):=
     .row Z.size l w.heap.size arr (tyi P T).elem (if_pos rfl) (heap_alloc_new w _) (by rw[h.1];exact uI _) h.2.1 h.2.2.1
      λ i d j e v M s hv=>(h.2.2.2 i d j e v M s hv).alloc hS R Y
    have h1:=hS.alloc R (w.alloc (.cells arr (tyi P T).elem)) rfl rfl rfl xB Y _ hob;refine⟨_,_,upd t (some w.heap.size) ι, .inl J,?_⟩;have h2:=h1.put (dst:=some t) (x:= .ref t Z.size 0 m m) (v:= .slice (some ⟨w.heap.size,0*Z.size,none⟩) m m) hd
     (.ref t Z.size 0 m m m w.heap.size (if_pos rfl) (uI _) (uI _) L (by simp only[bsz,heap_alloc_new w,h.1,C,yU]))
    rw[jP]at h2;exact h2
end hold
end Go.PS
