/- One step of a range over a map: nothing is left, or any entry that is left. -/
import Derived.Test.YtjjbhjnpeenbkaaGreatDoorPSCode
set_option linter.unusedSimpArgs false
set_option linter.unusedVariables false
set_option maxHeartbeats 16000000
namespace Go.PS
open Go
section hold
variable {P:Program}{B X:Nat->Prop}{w0:W0}{w:World}{n:Nat}{S:St}{a:Act}{ι:Nat->Option Nat}
theorem ZDh {b:Nat}{m:Option Nat}{c d:Nat}{s:Array Nat}{o':Obj}(hb:w.heap[b]? =some (.mapIter m c s d)):(setObj b o').run P w= .ok () (ChangeMaps.setBlock w b o'):=by
 simp only[setObj,Sem.run,hb];rfl
theorem ZDg {b bm k:Nat}{sn:List Nat}{es:Array MapEntry}{clock:Nat}{l:List (Int×Int)}{ty:TypeId}(hb:w.heap[b]? =some (.mapIter (some bm) k sn.toArray k))(hbm:w.heap[bm]? =some (.map es clock))(he:EntOk es clock l)(hk:l.length=k):
  ((∀j,j<k->j∈sn)/\(Instr.next (.pointer (some ⟨b,0,none⟩)) false ty).run P w= .ok (.tuple #[.bool false]) w)\/
  ∃(j:Nat) (e:MapEntry) (w1:World),j<k/\j∉sn/\(w1=w\/w1=w.drew)/\(Instr.next (.pointer (some ⟨b,0,none⟩)) false ty).run P w= .ok (.tuple #[.bool true,e.key,e.val]) (ChangeMaps.setBlock w1 b (.mapIter (some bm) k (sn++[j]).toArray k)):=by
 have hck:clock=k:=he.clock.trans hk;have hborn:∀x∈es.toList,x.born<k:=λ x hx=>by
  have:x.born∈List.range l.length:=he.born▸uP.2 ⟨x,hx,rfl⟩;rw[hk]at this;exact uZ.1 this
 have hall:∀j,j<k->∃x∈es.toList,x.born=j:=λ j hj=>by
  have:j∈es.toList.map (·.born):=by rw[he.born,hk];exact uZ.2 hj
  exact uP.1 this
 simp only[Instr.next,getObj,Sem.run_bind,Sem.run,hb,hbm,Result.andThen,next_test_false sn.toArray es k k hborn (uJ _),qD,jA];have hmem:∀x∈(Array.filter (λ e=> !sn.toArray.contains e.born) es).toList,x∈es.toList/\x.born∉sn:=λ x hx=>by simp at hx|-;exact hx
 have hmem2:∀x∈es.toList,x.born∉sn->x∈(Array.filter (λ e=> !sn.toArray.contains e.born) es).toList:=λ x hx hn=>by simp at hx|-;exact⟨hx,hn⟩
 generalize Array.filter (λ e=> !sn.toArray.contains e.born) es=L at hmem hmem2|-;have e1:L.filter (λ x=>decide (x.born<k))=L:=Array.filter_eq_self.2 (λ x hx=>by simpa using hborn x (hmem x (by simpa using hx)).1);have e2:L.filter (λ x=>decide (x.born≥k))=#[]:=by
  rw[Array.filter_eq_empty_iff];intro x hx;have:=hborn x (hmem x (by simpa using hx)).1;simp;omega
 simp only[e1,e2,Array.append_empty];by_cases h0:L.size=0
 ·left
  have hL:L=#[]:=Array.eq_empty_of_size_eq_zero h0;refine⟨λ j hj=>?_,?_⟩
  ·obtain⟨x,hx,hxb⟩:=hall j hj;rcases Classical.em (j∈sn)with h|h
   ·exact h
   ·have:=hmem2 x hx (hxb▸h);rw[hL]at this;simp at this
  ·subst hL;simp[choose,Sem.run,Question.forced]
 ·right
  have hne:L.isEmpty=false:=by simp[Array.isEmpty,h0]
  simp only[hne,qD,jA,Cv,Array.size_map];have hch:∃(j:Nat) (w1:World),j<L.size/\(w1=w\/w1=w.drew)/\(choose (Question.mapNext L.size)).run P w= .ok j w1:=by
   by_cases hf:L.size<=1
   ·exact⟨0,w,by omega, .inl rfl,by simp[choose,Sem.run,Question.forced,hf]⟩
   ·exact⟨_,w.drew,De _ (by omega), .inr rfl,by
     simp only[choose,Sem.run,Question.forced,uF,hf,jA,Question.cut];rfl⟩
  obtain⟨j,w1,hj,hal,hrun⟩:=hch;have hm:=hmem L[j] (by simp);have hb1:w1.heap[b]? =some (.mapIter (some bm) k sn.toArray k):=by rcases hal with rfl|rfl<;>exact hb
  refine⟨L[j].born,L[j],w1,hborn _ hm.1,hm.2,hal,?_⟩;simp only[hrun,kS,uU hj,qB,Sem.run_bind,ZDh hb1,Result.andThen,hck];simp
theorem Hold.step (hS:Hold B X w0 n S a w ι){o m b bm k:Nat}{sn sn':List Nat}(ho:S.objs o= .iter m k sn)(hι:ι o=some b)(hm:ι m=some bm)(hb:w.heap[b]? =some (.mapIter (some bm) k sn.toArray k)):
  Hold B X w0 n ⟨S.env,upd o (.iter m k sn') S.objs⟩ a (ChangeMaps.setBlock w b (.mapIter (some bm) k sn'.toArray k)) ι:=by
 have hlt:=(hS.free o b hι).2;have hlive:S.objs o≠ .gone:=by rw[ho];exact nofun
 have hnew:(ChangeMaps.setBlock w b (.mapIter (some bm) k sn'.toArray k)).heap[b]? =some (.mapIter (some bm) k sn'.toArray k):=by
  simp[ChangeMaps.setBlock,hlt]
 have hoth:∀i,i≠b->(ChangeMaps.setBlock w b (.mapIter (some bm) k sn'.toArray k)).heap[i]? =w.heap[i]? :=λ i hi=>by
  simp only[ChangeMaps.setBlock,zD,if_neg (Ne.symm hi)]
 exact hS.change (some b) o (.iter m k sn') ι _ rfl rfl rfl (by simp[ChangeMaps.setBlock]) (λ _ _=>rfl) (λ _ h=>h)
  (λ b' hb'=>by
   cases hb';exact⟨⟨o,hι⟩,λ o' hne hg ho'=>hne (hS.inj o' o b hg hlive ho' hι),by simp only[bsz,hb,hnew]⟩)
  (λ b' _ hne=>hoth b' (λ he=>hne (by rw[he])))
  (λ b' hb'=>⟨.inl ⟨hb',hlive⟩,by simp only[ChangeMaps.setBlock,Array.size_setIfInBounds];exact(hS.free o b' hb').2⟩)
  (.iter m k sn' b bm hι hm hnew)
end hold
theorem ZvC {P:Program}{ops:Array Oper}{Q:Exit->Act->World->Prop}{i:Nat}{rest:List Nat}{o:Oper}{a:Act}{w:World}(hi:ops[i]? =some o)(hg:o.guard=none)(h:o.wp P a w (wpOps P ops Q rest) Q):
  wpOps P ops Q (i::rest) a w:=by
 rw[wpOps_cons];unfold Go.wpOp;rw[hi];simp only[Region.wanted,hg,if_true];exact .inl h
theorem ZB8 {P:Program}{B X:Nat->Prop}{w0:W0}{n:Nat}{S:St}{Q:Exit->St->Prop}{id t d i o m k:Nat}{sn:List Nat}{l:List (Int×Int)}{ty1 ty2:TypeId}{p1 p2:String}{a1 a2:Array Edge}
  (he:S.env i= .ptr o 1 0 0)(ho:S.objs o= .iter m k sn)(hm:S.objs m= .imap l)(hk:l.length=k)(ht:t<n)(hd:d<n)
  (h1:(∀j,j<k->j∈sn)->Q .normal ⟨upd d (.bool false) (upd t (.tup [.bool false]) S.env),S.objs⟩)
  (h2:∀j,j<k->j∉sn->Q .normal ⟨upd d (.bool true) (upd t (.tup [.bool true, .unk, .unk]) S.env),upd o (.iter m k (sn++[j])) S.objs⟩):
  PW P B X w0 n (.region id #[⟨some t, .next (.tmp i) false,ty1,p1,a1,none⟩,⟨some d, .extract (.tmp t) 0,ty2,p2,a2,none⟩] false) Q S:=by
 unfold PW;intro a w ι hS;refine wp_region ?_;show wpOps P _ _ [0,1] a w;refine ZvC (o:=⟨some t, .next (.tmp i) false,ty1,p1,a1,none⟩) rfl rfl ?_;obtain⟨b,hv,hι⟩:=ZtN (he▸hS.env i);rw[jK,gX]at hv;obtain⟨bm,hιm,hb⟩:=Zr3 hS ho hι;obtain⟨es,clock,hbm,hes⟩:=Zi3 hS hm hιm;have hev:a.eval (.tmp i)= .pointer (some ⟨b,0,none⟩):=hv;have fin:∀(c:Bool) (xs:List PV) (S':St) (a':Act) (w':World),S'.env t= .tup (.bool c::xs)->Hold B X (w0.of P) n S' a' w' ι->Q .normal ⟨upd d (.bool c) S'.env,S'.objs⟩->
   wpOps P #[⟨some t, .next (.tmp i) false,ty1,p1,a1,none⟩,⟨some d, .extract (.tmp t) 0,ty2,p2,a2,none⟩] (λ e a' w'=>∃S' ι',Q e S'/\Hold B X (w0.of P) n S' a' w' ι') [1] a' w':=by
  intro c xs S' a' w' hS1 hS' hq;refine ZvC (o:=⟨some d, .extract (.tmp t) 0,ty2,p2,a2,none⟩) rfl rfl ?_;have hc:(Zgd (S'.ev (.tmp t)) 0)=(True,{val:= .bool c}):=by
   show Zgd (S'.env t) 0=_;rw[hS1];rfl
  have:=ZuF (P:=P) (dst:=some d) (ty:=ty2) (pos:=p2) (af:=a2) (gd:=none) (x:= .tmp t) (i:=0) hS' (λ u hu=>by cases hu;exact hd) rfl (by rw[hc];trivial);rw[hc]at this;refine this.wp λ a2 w2 ι2 h2=>?_
  exact⟨_,ι2,hq,h2⟩
 unfold Oper.wp;rcases ZDg (P:=P) (ty:=ty1) hb hbm hes hk with⟨hall,hr⟩|⟨j,e,w1,hj,hjn,hw1,hr⟩
 ·rw[show execOp a.eval ⟨some t, .next (.tmp i) false,ty1,p1,a1,none⟩=(do pure (.value (<-Instr.next (a.eval (.tmp i)) false ty1)))from rfl,hev];simp only[Sem.run_bind,hr,Result.andThen_ok,Sem.run_pure];rw[Oper.upon_value];exact fin false [] ⟨upd t (.tup [.bool false]) S.env,S.objs⟩ _ _ (if_pos rfl) (hS.put (dst:=some t) (λ u hu=>by cases hu;exact ht) (.tup _ #[_] rfl λ i d v hd hv=>by
   rcases i with _|i
   ·simp at hd hv;subst hd;subst hv;exact .d _ _ (.sc _ rfl)
   ·simp at hd)) (h1 hall)
 ·rw[show execOp a.eval ⟨some t, .next (.tmp i) false,ty1,p1,a1,none⟩=(do pure (.value (<-Instr.next (a.eval (.tmp i)) false ty1)))from rfl,hev];simp only[Sem.run_bind,hr,Result.andThen_ok,Sem.run_pure];rw[Oper.upon_value];have hS1:Hold B X (w0.of P) n S a w1 ι:=by
   rcases hw1 with rfl|rfl
   ·exact hS
   ·exact hS.ext ⟨rfl,rfl,rfl,uJ _,λ _ _=>rfl⟩
  have hb1:w1.heap[b]? =some (.mapIter (some bm) k sn.toArray k):=by rcases hw1 with rfl|rfl<;>exact hb
  have hS2:=hS1.step (sn':=sn++[j]) ho hι hιm hb1;exact fin true [.unk, .unk] ⟨upd t (.tup [.bool true, .unk, .unk]) S.env,upd o (.iter m k (sn++[j])) S.objs⟩ _ _ (if_pos rfl) (hS2.put (dst:=some t) (λ u hu=>by cases hu;exact ht) (.tup _ #[_,_,_] rfl λ i d v hd hv=>by
   rcases i with _|_|_|i
   ·simp at hd hv;subst hd;subst hv;exact .d _ _ (.sc _ rfl)
   ·simp at hd;subst hd;exact .unk _
   ·simp at hd;subst hd;exact .unk _
   ·simp at hd)) (h2 j hj hjn)
end Go.PS
