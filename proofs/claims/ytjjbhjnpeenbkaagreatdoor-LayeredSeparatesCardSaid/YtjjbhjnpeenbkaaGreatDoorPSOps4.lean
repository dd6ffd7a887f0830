/- Binary operations. -/
import Derived.Test.YtjjbhjnpeenbkaaGreatDoorPSAt
import Derived.Laws.Strings
import Derived.Great.BuildSlice
set_option linter.unusedSimpArgs false
set_option linter.unusedVariables false
set_option maxHeartbeats 16000000
namespace Go.PS
open Go
section hold
variable {P:Program}{B X:Nat->Prop}{w0:W0}{w:World}{n:Nat}{S:St}{a:Act}{ι:Nat->Option Nat}{dst:Option Nat}{ty:TypeId}{pos:String}{af:Array Edge}{gd:Option (Nat×Bool)}
theorem ZDd (op:BinOp)(t:TypeId)(x y:Operand)(p q:Int):(eqGuard op t x y (.int .i64 p) (.int .i64 q)).run P w= .ok () w:=by
 cases op<;>simp[eqGuard]
theorem Zuq (op:BinOp)(t:TypeId)(x y:Operand)(p q:Bool):(eqGuard op t x y (.bool p) (.bool q)).run P w= .ok () w:=by
 cases op<;>simp[eqGuard]
theorem ZC6 (op:BinOp)(t:TypeId)(p q:Int)(hc:(ZeZ op p q).1):(binOp op t (.int .i64 p) (.int .i64 q)).run P w= .ok (ZeZ op p q).2 w:=by
 cases op
 case and=>rfl
 case or=>rfl
 case xor=>rfl
 case andNot=>rfl
 all_goals (simp[ZeZ]at hc|-;simp[binOp,Op.intArith,Op.intDiv,Op.intCmp,Op.shift,IntKind.bits,hc])
 all_goals first
  |rfl
  |(intro h;exact absurd h (by omega))
  |(rw[qV];simp)
theorem ZDj (op:BinOp)(t:TypeId)(p q:Int)(ho:op= .shl\/op= .shr)(hc:(ZeZ op p q).1):(binOp op t (.int .i64 p) (.int .u64 q)).run P w= .ok (ZeZ op p q).2 w:=by
 rcases ho with rfl|rfl
 all_goals (simp[ZeZ]at hc|-;simp[binOp,Op.shift,IntKind.bits])
 all_goals (intro h;exact absurd h (by omega))
theorem ZC7 (op:BinOp)(t:TypeId)(p q:Int)(hc:(Ze0 op p q).1):(binOp op t (.int .u64 p) (.int .u64 q)).run P w= .ok (Ze0 op p q).2 w:=by
 cases op
 case and=>rfl
 case or=>rfl
 case xor=>rfl
 case andNot=>rfl
 case quo=>exact hc.elim
 case rem=>exact hc.elim
 all_goals (simp[Ze0]at hc|-;simp[binOp,Op.intArith,Op.intCmp,Op.shift,IntKind.bits,hc])
 all_goals first
  |rfl
  |(intro h;exact absurd h (by omega))
  |(rw[qV];simp)
theorem ZDi (op:BinOp)(t:TypeId)(p q:Int)(ho:op= .shl\/op= .shr)(hc:(Ze0 op p q).1):(binOp op t (.int .u64 p) (.int .i64 q)).run P w= .ok (Ze0 op p q).2 w:=by
 rcases ho with rfl|rfl
 all_goals (simp[Ze0]at hc|-;simp[binOp,Op.shift,IntKind.bits])
 all_goals (intro h;exact absurd h (by omega))
theorem ZoU (op:BinOp)(t:TypeId)(x y:Operand)(k j:IntKind)(p q:Int):(eqGuard op t x y (.int k p) (.int j q)).run P w= .ok () w:=by
 cases op<;>simp[eqGuard]
theorem Zqn (op:BinOp)(p q:Int):(Ze0 op p q).2.oneCell'=true:=by cases op<;>rfl
theorem ZgZ {k:IntKind}{m:Int}{v:Value}(h:PV.At w ι X (.d (.sc (.int k m))) v):v= .int k m:=by
 cases h with
 |d _ _ h=>cases h;rfl
theorem ZjM {s:ByteArray}{v:Value}(h:PV.At w ι X (.d (.sc (.string s))) v):v= .string s:=by
 cases h with
 |d _ _ h=>cases h;rfl
theorem Zqm (op:BinOp)(p q:Int):(ZeZ op p q).2.oneCell'=true:=by cases op<;>rfl
theorem PV.At.agg {p:PV}{v:Value}{cs:List PV}(h:PV.At w ι X p v)(hc:p.agg?=some cs):
  ∃arr,v= .agg arr/\arr.size=cs.length/\∀(j:Nat) q u,cs[j]? =some q->arr[j]? =some u->PV.At w ι X q u:=by
 cases h with
 |ag cs' arr hsz hone h=>cases hc;exact⟨arr,rfl,hsz,h⟩
 |d x v h=>
  cases h with
  |ag cs' arr hsz hone h=>
   cases hc;refine⟨arr,rfl,by simpa using hsz,λ j q u hq hu=>?_⟩;rw[uI]at hq;cases hj:cs'[j]? with
   |none=>rw[hj]at hq;cases hq
   |some d=>rw[hj]at hq;cases hq;exact .d _ _ (h j d u hj hu)
  |_=>cases hc
 |_=>cases hc
theorem ZDb {xs ys:Array Value}{cs ds:List PV}(hx:xs.size=cs.length)(hy:ys.size=ds.length)
  (h1:∀(j:Nat) q u,cs[j]? =some q->xs[j]? =some u->PV.At w ι X q u)(h2:∀(j:Nat) q u,ds[j]? =some q->ys[j]? =some u->PV.At w ι X q u)(d:Nat):
  ∀(fs:List Field) (k:Nat) (t:Bool),Zks P k fs=true->fs.length+k=cs.length->ZfU (cs.drop k) (ds.drop k)=some t->
   (Op.eqFields (d+1) xs ys fs).run P w= .ok t w:=by
 intro fs
 induction fs with
 |nil=>
  intro k t _ hl he;have hk:cs.drop k=[]:=by apply kI;simp at hl;omega
  rw[hk]at he;cases hd:ds.drop k with
  |nil=>rw[hd]at he;cases he;rfl
  |cons q r=>rw[hd]at he;simp[ZfU]at he
 |cons f fs ih=>
  intro k t hp hl he;simp only[Zks,uL,Cu,ne_eq,zL]at hp;obtain⟨⟨⟨hn,ho⟩,hu⟩,hp⟩:=hp;have hk:k<cs.length:=by simp at hl;omega
  have hck:cs.drop k=cs[k]::cs.drop (k+1):=qY hk;rw[hck]at he;cases hdd:ds.drop k with
  |nil=>
   rw[hdd]at he;cases hq:cs[k]<;>rw[hq]at he<;>simp[ZfU]at he
  |cons q r=>
   have hkd:k<ds.length:=by
    have:=qU List.length hdd;simp at this;omega
   have hdk:ds.drop k=ds[k]::ds.drop (k+1):=qY hkd;rw[hdk]at he;have ha:=h1 k cs[k] xs[k] (uR hk) (uU (by omega));have hb:=h2 k ds[k] ys[k] (uR hkd) (uU (by omega));have hxk:xs[k]? =some xs[k]:=uU (by omega);have hyk:ys[k]? =some ys[k]:=uU (by omega);have hagg:(isAgg f.type).run P w= .ok false w:=by
    simp only[isAgg];cases hq:P.underlying f.type with
    |none=>rw[hq]at hu;cases hu
    |some dd=>
     rw[hq]at hu;simp only[Sem.run_bind,run_underlying hq,Result.andThen_ok];cases dd<;>simp at hu<;>rfl
   have px:(part f.type xs f.offset).run P w= .ok xs[k] w:=by simp[part,hagg,ho,hxk]
   have py:(part f.type ys f.offset).run P w= .ok ys[k] w:=by simp[part,hagg,ho,hyk]
   have core:∀(r1:Bool) (t':Bool),(Op.equalIn (d+1) f.type xs[k] ys[k]).run P w= .ok r1 w->ZfU (cs.drop (k+1)) (ds.drop (k+1))=some t'->t=(r1&&t')->
     (Op.eqFields (d+1) xs ys (f::fs)).run P w= .ok t w:=by
    intro r1 t' hr he' ht;simp only[Op.eqFields,ne_eq,hn,not_false_eq_true,if_true,Sem.run_bind,px,py,Result.andThen_ok,hr];cases r1
    ·simp[ht]
    ·simp only[Ce,qD,jA];rw[ih (k+1) t' hp (by simp at hl|-;omega) he',ht];simp
   generalize cs[k]=pk at he ha;generalize ds[k]=qk at he hb;generalize xs[k]=xk at ha core;generalize ys[k]=yk at hb core;unfold ZfU at he;split at he
   ·rename_i h;cases h
   ·rename_i p1 r1 p2 r2 e1 e2;cases e1;cases e2;cases hq:ZfU (cs.drop (k+1)) (ds.drop (k+1))with
    |none=>rw[hq]at he;cases he
    |some t'=>
     rw[hq]at he;cases he;have:=Zbt ha;subst this;have:=Zbt hb;subst this;refine core _ t' ?_ hq rfl;cases hq2:P.underlying f.type with
     |none=>rw[hq2]at hu;cases hu
     |some dd=>
      rw[hq2]at hu;cases dd<;>simp at hu
      rw[run_equalIn_int w d f.type .i64 _ _ _ hq2]
      congr 1
   ·cases he
theorem ZBx {t:TypeId}(h:(tyi P t).peq=true):P.underlying t=some (.struct (P.fieldsOf t))/\Zks P 0 (P.fieldsOf t).toList=true/\P.stoodInHeld t=false/\P.eqGuardType P.depth t=false/\(P.fieldsOf t).size=P.cellsOf t:=by
 simp only[tyi,Program.fieldsOf]at h|-;cases hu:P.underlying t with
 |none=>rw[hu]at h;simp at h
 |some d=>rw[hu]at h;cases d<;>simp at h|-;exact⟨h.1.1.1,h.1.1.2,h.1.2,h.2⟩
theorem ZDc (w:World)(d:Nat)(T:TypeId)(base:Option Addr)(len cap:Nat){e:TypeId}(hu:P.underlying T=some (.slice e)):
  (Op.equalIn (d+1) T (.slice base len cap) (.slice none 0 0)).run P w= .ok base.isNone w:=by
 cases base<;>simp[Op.equalIn,run_underlying hu]
theorem ZAI {p r:PV}{v:Value}(h:Zca p=some r)(hp:PV.At w ι X p v):
  ∃base len cap,v= .slice base len cap/\PV.At w ι X r (.bool base.isNone)/\(r= .ab\/∃b,r= .bool b):=by
 cases hp with
 |nilS=>simp only[Zca,yI]at h;subst h;exact⟨_,_,_,rfl, .d _ _ (.sc _ rfl), .inr ⟨_,rfl⟩⟩
 |z0 base=>simp only[Zca,yI]at h;subst h;exact⟨_,_,_,rfl, .ab _, .inl rfl⟩
 |ref0 o sz off base=>simp only[Zca,yI,Ct,if_true]at h;subst h;exact⟨_,_,_,rfl, .ab _, .inl rfl⟩
 |ref o sz off len cap capr b hι hl hc hm hs=>
  simp only[Zca,yI]at h;split at h
  ·subst h;exact⟨_,_,_,rfl, .ab _, .inl rfl⟩
  ·subst h;exact⟨_,_,_,rfl, .d _ _ (.sc _ rfl), .inr ⟨_,rfl⟩⟩
 |d x v h'=>
  cases h' with
  |slnil base cap=>simp only[Zca,yI,List.isEmpty_nil,if_true]at h;subst h;exact⟨_,_,_,rfl, .ab _, .inl rfl⟩
  |sl l b off cap sz hl hc hsz vals hv hh=>
   simp only[Zca,yI]at h;split at h
   ·subst h;exact⟨_,_,_,rfl, .ab _, .inl rfl⟩
   ·subst h;exact⟨_,_,_,rfl, .d _ _ (.sc _ rfl), .inr ⟨_,rfl⟩⟩
  |sc v hv=>simp[Zca]at h
  |ag=>simp[Zca]at h
  |tup=>simp[Zca]at h
  |pt=>simp[Zca]at h
  |fn=>simp[Zca]at h
 |ptr=>simp[Zca]at h
 |ag=>simp[Zca]at h
 |tup=>simp[Zca]at h
 |fn=>simp[Zca]at h
 |unk=>simp[Zca]at h
 |und=>simp[Zca]at h
 |ab=>simp[Zca]at h
 |mp=>simp[Zca]at h
 |ifp=>simp[Zca]at h
theorem ZAP {r:PV}{b:Bool}(h:PV.At w ι X r (.bool b))(hsh:r= .ab\/∃b,r= .bool b):PV.At w ι X (Zog r) (.bool (!b)):=by
 rcases hsh with rfl|⟨c,rfl⟩
 ·exact .ab _
 ·cases h with
  |d _ _ h=>cases h;exact .d _ _ (.sc _ rfl)
theorem ZC8 (op:BinOp)(t:TypeId)(p q:Int)(hc:(ZiG op p q).1):(binOp op t (.int .u8 p) (.int .u8 q)).run P w= .ok (.bool (ZiG op p q).2) w:=by
 cases op<;>first|exact hc.elim|rfl|(simp[binOp,Op.intCmp,ZiG];done)
theorem ZuX (a b:ByteArray):(a.toList==b.toList)=decide (a=b):=by
 rw[ByteArray.toList_eq,ByteArray.toList_eq,qV,zL,uF];refine⟨λ h=>?_,λ h=>by rw[h]⟩;obtain⟨⟨x⟩⟩:=a;obtain⟨⟨y⟩⟩:=b;simp only at h;rw[h]
theorem ZDR (hS:Hold B X w0 n S a w ι){op:BinOp}{T T':TypeId}{x y:Operand}(hd:∀t,dst=some t->t<n)(hx:ZaD x=true)(hy:ZaD y=true)
  (hc:(Zho op (tyi P T) (S.ev x) (S.ev y)).1):ZaQ P B X w0 n ⟨dst, .binOp op T x y T',ty,pos,af,gd⟩ (S.app dst (Zho op (tyi P T) (S.ev x) (S.ev y)).2) a w:=by
 have hp:=hS.ev hx;have hq:=hS.ev hy;generalize S.ev x=p at hc hp;generalize S.ev y=q at hc hq;unfold Zho at hc|-;split at hc
 ·cases hn:Zca p with
  |none=>rw[hn]at hc;exact hc.elim
  |some r=>
   rw[hn]at hc;obtain⟨hk,ho⟩:=hc;simp only;rw[ZaT];obtain⟨base,len,cap,e1,hr,hsh⟩:=ZAI hn hp;have e2:a.eval y= .slice none 0 0:=by
    generalize a.eval y=v at hq;cases hq;rfl
   have he:=ZDc (P:=P) w 9999 T base len cap (ZdT hk);have hg:(eqGuard op T x y (.slice base len cap) (.slice none 0 0)).run P w= .ok () w:=by rcases ho with rfl|rfl<;>simp[eqGuard]
   rcases ho with rfl|rfl
   ·refine hS.goes (v:= .bool base.isNone) hd ?_ (by simpa using hr);simp[execOp,e1,e2,hg,binOp,Op.equal,Op.maxDepth,he]
   ·refine hS.goes (v:= .bool (!base.isNone)) hd ?_ (by simpa using ZAP hr hsh);simp[execOp,e1,e2,hg,binOp,Op.equal,Op.maxDepth,he]
 ·rename_i m k;simp only;rw[ZaT];have e1:=Zbt hp;have e2:=Zbt hq;exact hS.goes hd (by simp only[execOp,e1,e2,Sem.run_bind,ZDd,Result.andThen_ok,ZC6 op T m k hc,Sem.run_pure]) (.d _ _ (.sc _ (Zqm op m k)))
 ·rename_i m k;obtain⟨ho,hc⟩:=hc;simp only;rw[ZaT];have e1:=Zbt hp;have e2:a.eval y= .int .u64 k:=by
   generalize a.eval y=v at hq;cases hq with
   |d _ _ h=>cases h;rfl
  have hg:(eqGuard op T x y (.int .i64 m) (.int .u64 k)).run P w= .ok () w:=by rcases ho with rfl|rfl<;>simp[eqGuard]
  exact hS.goes hd (by simp only[execOp,e1,e2,Sem.run_bind,hg,Result.andThen_ok,ZDj op T m k ho hc,Sem.run_pure]) (.d _ _ (.sc _ (Zqm op m k)))
 ·rename_i m k;simp only;rw[ZaT];have e1:=ZgZ hp;have e2:=ZgZ hq;exact hS.goes hd (by simp only[execOp,e1,e2,Sem.run_bind,ZoU,Result.andThen_ok,ZC7 op T m k hc,Sem.run_pure]) (.d _ _ (.sc _ (Zqn op m k)))
 ·rename_i m k;obtain⟨ho,hc⟩:=hc;simp only;rw[ZaT];have e1:=ZgZ hp;have e2:=ZgZ hq;exact hS.goes hd (by simp only[execOp,e1,e2,Sem.run_bind,ZoU,Result.andThen_ok,ZDi op T m k ho hc,Sem.run_pure]) (.d _ _ (.sc _ (Zqn op m k)))
 ·rename_i m k;obtain⟨hk,ho⟩:=hc;simp only;rw[ZaT];have e1:=ZjL hp;have e2:=ZjL hq;have hu:=ZzB hk;have he:=run_equalIn_bool' (P:=P) w 9999 T m k hu;rw[show(m==k)=decide (m=k) by cases m<;>cases k<;>rfl]at he;rcases ho with rfl|rfl
  ·refine hS.goes (v:= .bool (decide (m=k))) hd ?_ (.d _ _ (.sc _ rfl));simp[execOp,e1,e2,Zuq,binOp,Op.equal,Op.maxDepth,he]
  ·refine hS.goes (v:= .bool (!decide (m=k))) hd ?_ (.d _ _ (.sc _ rfl));simp[execOp,e1,e2,Zuq,binOp,Op.equal,Op.maxDepth,he]
 ·rename_i m k;simp only;rw[ZaT];have e1:=ZgZ hp;have e2:=ZgZ hq;exact hS.goes hd (by simp only[execOp,e1,e2,Sem.run_bind,ZoU,Result.andThen_ok,ZC8 op T m k hc,Sem.run_pure]) (.d _ _ (.sc _ rfl))
 ·rename_i m k;simp only;rw[ZaT];have e1:=ZjM hp;have e2:=ZjM hq;rcases hc with rfl|rfl
  ·refine hS.goes (v:= .bool (decide (m=k))) hd ?_ (.d _ _ (.sc _ rfl));simp[execOp,e1,e2,eqGuard,binOp,Op.stringOp,ZuX]
  ·refine hS.goes (v:= .bool (!decide (m=k))) hd ?_ (.d _ _ (.sc _ rfl));simp[execOp,e1,e2,eqGuard,binOp,Op.stringOp,ZuX]
 ·cases hcs:p.agg? with
  |none=>rw[hcs]at hc;exact hc.elim
  |some cs=>
   cases hds:q.agg? with
   |none=>rw[hcs,hds]at hc;exact hc.elim
   |some ds=>
    rw[hcs,hds]at hc;simp only at hc|-;cases ht:ZfU cs ds with
    |none=>rw[ht]at hc;exact hc.elim
    |some t=>
     rw[ht]at hc;obtain⟨hpe,hln,ho⟩:=hc;simp only;rw[ZaT];obtain⟨xs,e1,hxs,h1⟩:=hp.agg hcs;obtain⟨ys,e2,hys,h2⟩:=hq.agg hds;obtain⟨hu,hpf,hst,hg,hsz⟩:=ZBx hpe;have hr:=ZDb (P:=P) hxs hys h1 h2 9998 (P.fieldsOf T).toList 0 t hpf (by simp only[tyi]at hln;simp;omega) (by simpa using ht);have he:=run_equalIn_struct (P:=P) w 9999 T xs ys hu hst;rw[hr]at he;rcases ho with rfl|rfl
     ·refine hS.goes (v:= .bool t) hd ?_ (.d _ _ (.sc _ rfl));simp[execOp,e1,e2,run_eqGuard_agg w _ T _ _ xs ys hg,binOp,Op.equal,Op.maxDepth,he]
     ·refine hS.goes (v:= .bool (!t)) hd ?_ (.d _ _ (.sc _ rfl));simp[execOp,e1,e2,run_eqGuard_agg w _ T _ _ xs ys hg,binOp,Op.equal,Op.maxDepth,he]
end hold
section hold
variable {P:Program}{B X:Nat->Prop}{w0:W0}{w:World}{n:Nat}{S:St}{a:Act}{ι:Nat->Option Nat}{dst:Option Nat}{ty:TypeId}{pos:String}{af:Array Edge}{gd:Option (Nat×Bool)}
theorem Hold.dead (h:Hold B X w0 n S a w ι){t:Nat}(hd:S.objs t= .dead):ι t=none:=by
 have:=h.objs t;rw[hd]at this;cases this;assumption
theorem Hold.alloc (h:Hold B X w0 n S a w ι){t:Nat}(hd:S.objs t= .dead)(w':World)(hos:w'.os=w.os)(htape:w'.tape=w.tape)(hout:w'.output=w.output)
  (hsize:w'.heap.size=w.heap.size+1)(hold:∀b,b<w.heap.size->w'.heap[b]? =w.heap[b]?)(ob:Ob)
  (hob:Ob.At w' (upd t (some w.heap.size) ι) X t ob):
  Hold B X w0 n {env:=S.env,objs:=upd t ob S.objs} a w' (upd t (some w.heap.size) ι):=
 h.change none t ob (upd t (some w.heap.size) ι) w' hos htape hout (by omega) (λ o' hne=>if_neg hne) (λ b hb=>by rw[h.dead hd]at hb;cases hb) (λ b hb=>by cases hb) (λ b hb _=>hold b hb)
  (λ b hb=>by rw[upd,if_pos rfl]at hb;cases hb;exact⟨.inr (.inl (uJ _)),by omega⟩) hob
theorem PV.At.alloc (h:Hold B X w0 n S a w ι){t:Nat}(hd:S.objs t= .dead){w':World}
  (hold:∀b,b<w.heap.size->w'.heap[b]? =w.heap[b]?){p:PV}{v:Value}(hp:PV.At w ι X p v):PV.At w' (upd t (some w.heap.size) ι) X p v:=by
 have hn:=h.dead hd;refine hp.move (λ o b hb=>?_) (λ b hb=>?_) (λ b hb _=>hold b hb)
 ·have hne:o≠t:=λ he=>by rw[he,hn]at hb;cases hb
  exact⟨by rw[upd,if_neg hne];exact hb,by simp only[bsz,hold b (h.free o b hb).2]⟩
 ·rcases hb with hb|⟨o,hb⟩
  ·exact .inl (.inl hb)
  ·by_cases he:o=t
   ·subst he;rw[upd,if_pos rfl]at hb;cases hb;exact .inr (uJ _)
   ·rw[upd,if_neg he]at hb;exact .inl (.inr ⟨o,hb⟩)
theorem D.At.alloc (h:Hold B X w0 n S a w ι){t:Nat}(hd:S.objs t= .dead){w':World}
  (hold:∀b,b<w.heap.size->w'.heap[b]? =w.heap[b]?){p:D}{v:Value}(hp:D.At w (ownX ι X) p v):D.At w' (ownX (upd t (some w.heap.size) ι) X) p v:=by
 have:=PV.At.alloc h hd hold (.d _ _ hp);cases this;assumption
theorem ZrI (hS:Hold B X w0 n S a w ι){t:Nat}{o:Oper}(hdst:o.dst=some t)(ht:t<n)(hd:S.objs t= .dead)(cs:List PV)(arr:Array Value)(T:TypeId)
  (hr:(execOp a.eval o).run P w= .ok (.value (.pointer (some ⟨w.heap.size,0,none⟩))) (w.alloc (.cells arr T)))
  (hsz:arr.size=cs.length)(hone:∀(j:Nat) (v:Value),arr[j]? =some v->v.oneCell'=true)(hat:∀(j:Nat) p v,cs[j]? =some p->arr[j]? =some v->PV.At w ι X p v):
  ZaQ P B X w0 n o (S.app o.dst {val:= .ptr t 0 0 0,wr:=[(t, .cells cs)]}) a w:=by
 have hold:∀b,b<w.heap.size->(w.alloc (.cells arr T)).heap[b]? =w.heap[b]? :=λ b hb=>heap_alloc_old w _ hb
 have hob:Ob.At (w.alloc (.cells arr T)) (upd t (some w.heap.size) ι) X t (.cells cs):=
  .cells cs w.heap.size arr T (if_pos rfl) (heap_alloc_new w _) (Nat.le_of_eq hsz.symm) hone λ j p v hj hv=>(hat j p v hj hv).alloc hS hd hold
 have h1:=hS.alloc hd (w.alloc (.cells arr T)) rfl rfl rfl (by simp) hold _ hob;refine⟨_,_,upd t (some w.heap.size) ι, .inl hr,?_⟩;have h2:=h1.put (dst:=o.dst) (x:= .ptr t 0 0 0) (v:= .pointer (some ⟨w.heap.size,0*0+0,none⟩)) (λ u hu=>by rw[hdst]at hu;cases hu;exact ht)
  (.ptr t 0 0 0 w.heap.size (if_pos rfl))
 rw[hdst]at h2|-;exact h2
theorem ZDM (hS:Hold B X w0 n S a w ι){T:TypeId}(hd:∀t,dst=some t->t<n)(hc:(ZgH (tyi P T) S.objs dst).1):
  ZaQ P B X w0 n ⟨dst, .alloc T,ty,pos,af,gd⟩ (S.app dst (ZgH (tyi P T) S.objs dst).2) a w:=by
 unfold ZgH at hc|-;cases dst with
 |none=>exact hc.elim
 |some t=>
  obtain⟨hz,hdead⟩:=hc;obtain⟨i,z,hi,hiz,hzs,hz1,hne,hzz⟩:=ZpC hz;refine ZrI (P:=P) (o:=⟨some t, .alloc T,ty,pos,af,gd⟩) hS rfl (hd t rfl) hdead _ z.cells T ?_ (by simp[hzz]) (λ j v hj=>?_) (λ j p v hj hv=>?_)
  ·simp[execOp,Instr.alloc,zeroValue,typeInfo,hi,hiz,newVar,newRow]
  ·exact hz1 v (by simpa using gY hj)
  ·rw[hzz,uI,qS,hv]at hj;cases hj;exact Zlg (hz1 v (by simpa using gY hv))
theorem ZDS (hS:Hold B X w0 n S a w ι){T:TypeId}{x:Operand}(hd:∀t,dst=some t->t<n)(hx:ZaD x=true)(hc:(ZgI S.objs dst (S.ev x).cells?).1):
  ZaQ P B X w0 n ⟨dst, .box T x,ty,pos,af,gd⟩ (S.app dst (ZgI S.objs dst (S.ev x).cells?).2) a w:=by
 have hp:=hS.ev hx;unfold ZgI at hc|-;cases dst with
 |none=>exact hc.elim
 |some t=>
  cases hcs:(S.ev x).cells? with
  |none=>rw[hcs]at hc;exact hc.elim
  |some cs=>
   rw[hcs]at hc;obtain⟨h1,h2,h3⟩:=hp.cells hcs;exact ZrI (P:=P) (o:=⟨some t, .box T x,ty,pos,af,gd⟩) hS rfl (hd t rfl) hc _ (a.eval x).cells T (by simp[execOp,Instr.box,newVar,newRow]) h1 h2 h3
theorem ZjV {α:Type}(cs:List α)(c:Nat)(xs:List α)(h:c+xs.length<=cs.length)(j:Nat):
  (ZbX cs c xs)[j]? =if j<c then cs[j]? else if j<c+xs.length then xs[j-c]? else cs[j]? :=by
 unfold ZbX;rw[qK,jB];simp only[yJ,jE (show c<=cs.length by omega)];split
 ·rw[Bk (by assumption)]
 ·rw[jB];split
  ·rw[if_pos (by omega)]
  ·rw[if_neg (by omega),gA]
   congr 1;omega
theorem Zmb (w:World)(g:Nat)(cs:Array Value):(w.setRow g cs).heap.size=w.heap.size:=by simp[World.setRow]
theorem ZfO (arr:Array Value)(p:Nat)(vs:List Value)(h:p+vs.length<=arr.size)(j:Nat):
  ((arr.toList.take p++vs++arr.toList.drop (p+vs.length)).toArray)[j]? =if j<p then arr[j]? else if j<p+vs.length then vs[j-p]? else arr[j]? :=by
 have:=ZjV arr.toList p vs (by simpa using h) j;simp only[ZbX]at this;rw[kQ,this];simp only[qS]
theorem ZdF (arr:Array Value)(p:Nat)(vs:List Value)(h:p+vs.length<=arr.size):((arr.toList.take p++vs++arr.toList.drop (p+vs.length)).toArray).size=arr.size:=by
 simp;omega
theorem ZrJ (hS:Hold B X w0 n S a w ι){o:Oper}(hdst:o.dst=none){q b:Nat}{arr:Array Value}{T:TypeId}(hlive:S.objs q≠ .gone)(hι:ι q=some b)(hb:w.heap[b]? =some (.cells arr T (0,0)))
  (p:Nat)(vs:List Value)(hlen:p+vs.length<=arr.size)(ob:Ob)
  (hr:(execOp a.eval o).run P w= .ok .skip (w.setRow b (arr.toList.take p++vs++arr.toList.drop (p+vs.length)).toArray))
  (hob:Ob.At (w.setRow b (arr.toList.take p++vs++arr.toList.drop (p+vs.length)).toArray) ι X q ob):
  ZaQ P B X w0 n o (S.app o.dst {val:= .unk,wr:=[(q,ob)]}) a w:=by
 have h1:=hS.change (some b) q ob ι (w.setRow b (arr.toList.take p++vs++arr.toList.drop (p+vs.length)).toArray) rfl rfl rfl (by simp) (λ _ _=>rfl) (λ _ h=>h)
  (λ b' hb'=>by
   cases hb';exact⟨⟨q,hι⟩,λ o' hne hg ho'=>hne (hS.inj o' q b hg hlive ho' hι),by simp only[bsz,hb,setRow_heap w b arr _ T (0,0) hb,ZdF arr p vs hlen]⟩)
  (λ b' _ hne=>setRow_other w b b' _ (λ he=>hne (by rw[he])))
  (λ b' hb'=>⟨.inl ⟨hb',hlive⟩,by rw[Zmb];exact(hS.free q b' hb').2⟩) hob
 refine⟨undef,_,ι, .inr ⟨hr,rfl⟩,?_⟩;rw[hdst];exact h1
theorem PV.At.store (_hS:Hold B X w0 n S a w ι){q b:Nat}{arr arr':Array Value}{T:TypeId}(hι:ι q=some b)(hb:w.heap[b]? =some (.cells arr T (0,0)))(hsz:arr'.size=arr.size)
  {p:PV}{v:Value}(hp:PV.At w ι X p v):PV.At (w.setRow b arr') ι X p v:=by
 refine hp.move (λ o b' hb'=>⟨hb',?_⟩) (λ b' hb'=> .inl hb') (λ b' hlt hne=>setRow_other w b b' _ (λ he=>hne (.inr ⟨q,he▸hι⟩)));by_cases he:b'=b
 ·subst he;simp only[bsz,hb,setRow_heap w b' arr _ T (0,0) hb,hsz]
 ·simp only[bsz,setRow_other w b b' _ he]
theorem D.At.store (hS:Hold B X w0 n S a w ι){q b:Nat}{arr arr':Array Value}{T:TypeId}(hι:ι q=some b)(hb:w.heap[b]? =some (.cells arr T (0,0)))(hsz:arr'.size=arr.size)
  {p:D}{v:Value}(hp:D.At w (ownX ι X) p v):D.At (w.setRow b arr') (ownX ι X) p v:=by
 have:=PV.At.store hS hι hb hsz (.d _ _ hp);cases this;assumption
theorem ZAh {vs:List PV}{ds:List D}(h:vs.mapM PV.asD=some ds):ds.length=vs.length/\∀(j:Nat) d,ds[j]? =some d->∃p,vs[j]? =some p/\p.asD=some d:=by
 induction vs generalizing ds with
 |nil=>simp at h;subst h;simp
 |cons p vs ih=>
  simp only[jU]at h;cases hp:p.asD with
  |none=>rw[hp]at h;cases h
  |some d=>
   rw[hp]at h;cases hr:vs.mapM PV.asD with
   |none=>rw[hr]at h;cases h
   |some r=>
    rw[hr]at h;cases h;obtain⟨h1,h2⟩:=ih hr;refine⟨by simp[h1],λ j e he=>?_⟩;cases j with
    |zero=>simp at he;subst he;exact⟨p,rfl,hp⟩
    |succ j=>simp at he;obtain⟨q,hq,hqe⟩:=h2 j e he;exact⟨q,by simpa using hq,hqe⟩
theorem PV.At.asD {p:PV}{v:Value}{d:D}(h:PV.At w ι X p v)(hd:p.asD=some d):D.At w (ownX ι X) d v:=by
 cases h with
 |d x v h=>cases hd;exact h
 |nilS=>cases hd;exact .slnil none 0
 |z0 base=>cases hd;exact .slnil base 0
 |_=>cases hd
theorem ZAr {x:D}{cs:List D}(hl:cs.length=x.cells.length)(h1:∀d,cs=[d]->d.cells=[d]):(mkD x cs).cells=cs:=by
 unfold mkD;split
 ·rfl
 ·rename_i hx;have:cs.length=1:=by rw[hl];cases x<;>first|rfl|exact absurd rfl (hx _)
  match cs,this with
  |[d],_=>exact h1 d rfl
theorem ZEh (hS:Hold B X w0 n S a w ι){T:TypeId}{x y:Operand}(hdn:dst=none)(hx:ZaD x=true)(hy:ZaD y=true)
  (hc:(ZeO (tyi P T) S.objs (S.ev x) (S.ev y).cells?).1):ZaQ P B X w0 n ⟨dst, .store T x y,ty,pos,af,gd⟩ (S.app dst (ZeO (tyi P T) S.objs (S.ev x) (S.ev y).cells?).2) a w:=by
 have hp:=hS.ev hx;have hq:=hS.ev hy;generalize S.ev x=p at hc hp;unfold ZeO at hc|-;split at hc
 ·rename_i o sz i c vs hcs;obtain⟨hvl,hok,hc⟩:=hc;simp only;obtain⟨q1,q2,q3⟩:=hq.cells hcs;generalize hva:a.eval x=va at hp;cases hp with
  |ptr o sz i c b hι=>
   have hob:=hS.objs o;generalize hgo:S.objs o=ob at hob hc;have hone':∀v∈(a.eval y).cells.toList,v.oneCell'=true:=λ v hv=>by
    obtain⟨j,hj⟩:=yU hv;exact q2 j v (by simpa using hj)
   have hlen:(a.eval y).cells.toList.length=vs.length:=by simpa using q1
   have run:∀(arr:Array Value) (T':TypeId),w.heap[b]? =some (.cells arr T' (0,0))->i*sz+c+vs.length<=arr.size->
     (execOp a.eval ⟨dst, .store T x y,ty,pos,af,gd⟩).run P w= .ok .skip (w.setRow b (arr.toList.take (i*sz+c)++(a.eval y).cells.toList++arr.toList.drop (i*sz+c+(a.eval y).cells.toList.length)).toArray):=by
    intro arr T' hb hl;have hst:=run_storeCells_at P b (i*sz+c) T' (a.eval y).cells.toList 0 arr w hb (by rw[hlen];omega) hone';have hcs':(a.eval y).cells.size=P.cellsOf T:=by simp[tyi]at hvl;omega
    simp only[execOp,Instr.storeAt,hva,Instr.sureAddr,Sem.run_bind,Sem.run_pure,Result.andThen_ok,storeVar,Zur hok,hcs',ne_eq,not_true_eq_false,jA,hst,gX]
   cases hob with
   |dead h=>exact hc.elim
   |gone=>exact hc.elim
   |imap=>exact hc.elim
   |iter=>exact hc.elim
   |row0 sz' h=>rw[h]at hι;cases hι
   |cells cs b' arr T' hι' hb hsz hone h=>
    rw[hι]at hι';cases hι';simp only[ZkB]at hc|-;have run:=run arr T' hb;generalize i*sz+c=r at hc run|-;have hl:=hc;have hl':r+vs.length<=arr.size:=by omega
    have hls:r+(a.eval y).cells.toList.length<=arr.size:=by rw[hlen];exact hl'
    refine ZrJ (P:=P) (o:=⟨dst, .store T x y,ty,pos,af,gd⟩) hS hdn (by rw[hgo];simp) hι hb r (a.eval y).cells.toList hls _ (run hl') ?_;refine .cells _ b _ T' hι (setRow_heap w b arr _ T' (0,0) hb) ?_ (λ j v hj=>?_) (λ j p v hj hv=>?_)
    ·rw[ZdF _ _ _ hls];simp[ZbX];omega
    ·rw[ZfO _ _ _ hls]at hj;split at hj
     ·exact hone j v hj
     ·split at hj
      ·exact hone' v (uA hj)
      ·exact hone j v hj
    ·refine PV.At.store hS hι hb (ZdF _ _ _ hls) ?_;rw[ZjV cs r vs hl]at hj;rw[ZfO _ _ _ hls]at hv;simp only[hlen]at hv;split at hj
     ·rename_i hlt;rw[if_pos hlt]at hv;exact h j p v hj hv
     ·rename_i hlt;rw[if_neg hlt]at hv;split at hj
      ·rename_i hlt2;rw[if_pos hlt2]at hv;exact q3 (j-r) p v hj (by simpa using hv)
      ·rename_i hlt2;rw[if_neg hlt2]at hv;exact h j p v hj hv
   |row sz' l b' arr T' hι' hb hsz hcl hone h=>
    rw[hι]at hι';cases hι';simp only[ZkB]at hc|-;cases hds:vs.mapM PV.asD with
    |none=>rw[hds]at hc;exact hc.elim
    |some ds=>
     rw[hds]at hc;obtain⟨rfl,hi,hl⟩:=hc;have hli:l[i]? =some l[i]:=uR hi;simp only[hli,yN]at hl|-;obtain⟨hdl,hda⟩:=ZAh hds;have hcs:l[i].cells.length=sz:=hcl _ (jO hi);have hroom:i*sz+sz<=arr.size:=by
      have:(i+1)*sz<=l.length*sz:=yO _ hi;rw[qJ]at this;omega
     have hl':i*sz+c+vs.length<=arr.size:=by omega
     have hls:i*sz+c+(a.eval y).cells.toList.length<=arr.size:=by rw[hlen];exact hl'
     have hat:∀(j:Nat) d v,ds[j]? =some d->(a.eval y).cells[j]? =some v->D.At w (ownX ι X) d v:=λ j d v hj hv=>by
      obtain⟨p,hp,hpd⟩:=hda j d hj;exact(q3 j p v hp hv).asD hpd
     have hmk:(mkD l[i] (ZbX l[i].cells c ds)).cells=ZbX l[i].cells c ds:=by
      refine ZAr (by simp[ZbX];omega) (λ d hd=>?_);by_cases hz:ds.length=0
      ·
       have h0:l[i].cells=[d]:=by
        rw[<-hd];unfold ZbX;have:ds=[]:=qI hz;subst this;simp
       have hdi:l[i].cells[0]? =some d:=by rw[h0];rfl
       have hs1:sz=1:=by rw[<-hcs,h0];rfl
       have hlt:i*sz+0<arr.size:=by omega
       exact(h i _ 0 d _ hli hdi (uU hlt)).single (hone _ _ (uU hlt))
      ·have hlen1:(ZbX l[i].cells c ds).length=1:=by rw[hd];rfl
       have hs1:l[i].cells.length=1:=by simp[ZbX]at hlen1;omega
       have hc0:c=0:=by omega
       have hd1:ds.length=1:=by omega
       subst hc0;have:ds=[d]:=by
        rw[<-hd];unfold ZbX;have:l[i].cells.drop (0+ds.length)=[]:=kI (by omega);rw[this];simp
       have hv0:(a.eval y).cells[0]? =some ((a.eval y).cells[0]'(by omega)):=uU _;exact(hat 0 d _ (by rw[this];rfl) hv0).single (q2 0 _ hv0)
     refine ZrJ (P:=P) (o:=⟨dst, .store T x y,ty,pos,af,gd⟩) hS hdn (by rw[hgo];simp) hι hb (i*sz+c) (a.eval y).cells.toList hls _ (run arr T' hb hl') ?_;refine .row sz _ b _ T' hι (setRow_heap w b arr _ T' (0,0) hb) ?_ (λ d hd=>?_) (λ j v hj=>?_) (λ i' d j e v hi' hj hv=>?_)
     ·rw[ZdF _ _ _ hls];simpa using hsz
     ·rcases jQ hd with hd|rfl
      ·exact hcl d hd
      ·rw[hmk];simp[ZbX];omega
     ·rw[ZfO _ _ _ hls]at hj;split at hj
      ·exact hone j v hj
      ·split at hj
       ·exact hone' v (uA hj)
       ·exact hone j v hj
     ·refine D.At.store hS hι hb (ZdF _ _ _ hls) ?_;rw[ZfO _ _ _ hls]at hv;rw[hlen]at hv;by_cases hii:i'=i
      ·subst hii;rw[gQ hi]at hi';cases hi';rw[hmk,ZjV _ c ds hl]at hj;split at hj
       ·rw[if_pos (by omega)]at hv;exact h i' _ j e v hli hj hv
       ·rw[if_neg (by omega)]at hv;split at hj
        ·rw[if_pos (by omega)]at hv;exact hat (j-c) e v hj (by rw[<-qS];rw[show i'*sz+j-(i'*sz+c)=j-c by omega]at hv;exact hv)
        ·rw[if_neg (by omega)]at hv;exact h i' _ j e v hli hj hv
      ·rw[jJ (Ne.symm hii)]at hi';have hjs:j<sz:=by
        have:=(uB.1 hj).1;rw[hcl d (uA hi')]at this;exact this
       have hout:i'*sz+j<i*sz+c\/i*sz+c+vs.length<=i'*sz+j:=by
        rcases Nat.lt_or_gt_of_ne hii with hlt|hgt
        ·left
         have:(i'+1)*sz<=i*sz:=yO _ hlt;rw[qJ]at this;omega
        ·right
         have:(i+1)*sz<=i'*sz:=yO _ hgt;rw[qJ]at this;omega
       rcases hout with ho|ho
       ·rw[if_pos ho]at hv;exact h i' d j e v hi' hj hv
       ·rw[if_neg (by omega),if_neg (by omega)]at hv;exact h i' d j e v hi' hj hv
 ·exact hc.elim
end hold
section hold
variable {P:Program}{B X:Nat->Prop}{w0:W0}{w:World}{n:Nat}{S:St}{a:Act}{ι:Nat->Option Nat}{dst:Option Nat}{ty:TypeId}{pos:String}{af:Array Edge}{gd:Option (Nat×Bool)}
theorem ZyR (off:Nat):∀(vs:List Value) (k:Nat) (cs:Array Value),
  ((vs.zipIdx k).foldl (λ(cs:Array Value) (cj:Value×Nat)=>cs.setIfInBounds (off+cj.2) cj.1) cs).size=cs.size/\
  ∀j,off+k+vs.length<=cs.size->((vs.zipIdx k).foldl (λ(cs:Array Value) (cj:Value×Nat)=>cs.setIfInBounds (off+cj.2) cj.1) cs)[j]? =
   if j<off+k then cs[j]? else if j<off+k+vs.length then vs[j-(off+k)]? else cs[j]? :=by
 intro vs
 induction vs with
 |nil=>intro k cs;refine⟨rfl,λ j _=>?_⟩;simp;intro h1 h2;omega
 |cons v vs ih=>
  intro k cs;obtain⟨h1,h2⟩:=ih (k+1) (cs.setIfInBounds (off+k) v);simp only[List.zipIdx_cons,jF];refine⟨by rw[h1];simp,λ j hl=>?_⟩;rw[h2 j (by simp at hl|-;omega)];simp only[yB]at hl|-;by_cases c1:j<off+k
  ·rw[if_pos (by omega),if_pos c1,Ab (by omega)]
  ·by_cases c2:j=off+k
   ·subst c2;rw[if_pos (by omega),if_neg c1,if_pos (by omega),Av (by omega)];simp
   ·rw[if_neg (by omega),if_neg c1];by_cases c3:j<off+k+(vs.length+1)
    ·rw[if_pos (by omega),if_pos c3,show j-(off+k)=(j-(off+(k+1)))+1 by omega,kB]
    ·rw[if_neg (by omega),if_neg c3,Ab (by omega)]
theorem Zry (off:Nat)(vs cs:Array Value)(hl:off+vs.size<=cs.size):
  (vs.zipIdx.foldl (λ(cs:Array Value) (cj:Value×Nat)=>cs.setIfInBounds (off+cj.2) cj.1) cs).size=cs.size/\
  ∀j,(vs.zipIdx.foldl (λ(cs:Array Value) (cj:Value×Nat)=>cs.setIfInBounds (off+cj.2) cj.1) cs)[j]? =
   if j<off then cs[j]? else if j<off+vs.size then vs[j-off]? else cs[j]? :=by
 have:=ZyR off vs.toList 0 cs;rw[<-Array.foldl_toList,Array.toList_zipIdx];refine⟨this.1,λ j=>?_⟩;rw[this.2 j (by simpa using hl)];simp
def Zmu (w:World)(ι:Nat->Option Nat)(X:Nat->Prop)(cs:List PV)(arr:Array Value):Prop:=
 arr.size=cs.length/\(∀(j:Nat) (v:Value),arr[j]? =some v->v.oneCell'=true)/\∀(j:Nat) p v,cs[j]? =some p->arr[j]? =some v->PV.At w ι X p v
theorem Zyw (pl:Nat->Option (Nat×Nat)):∀(ps:List (Nat×PV)) (vs:List (Nat×Value)) (cs cs':List PV) (arr:Array Value),
  ps.length=vs.length->(∀(k:Nat) p v,ps[k]? =some p->vs[k]? =some v->p.1=v.1/\PV.At w ι X p.2 v.2)->Zmu w ι X cs arr->ZiU pl cs ps=some cs'->
  ∃arr',Instr.fill pl arr vs=some arr'/\Zmu w ι X cs' arr':=by
 intro ps
 induction ps with
 |nil=>
  intro vs cs cs' arr hl _ hc hf;cases vs with
  |nil=>cases hf;exact⟨arr,rfl,hc⟩
  |cons _ _=>cases hl
 |cons p ps ih=>
  intro vs cs cs' arr hl hr hc hf;cases vs with
  |nil=>cases hl
  |cons v vs=>
   obtain⟨i,x⟩:=p;obtain⟨i',y⟩:=v;obtain⟨hi,hxy⟩:=hr 0 _ _ rfl rfl;simp only at hi hxy;subst hi;simp only[ZiU]at hf;simp only[Instr.fill];cases hp:pl i with
   |none=>rw[hp]at hf;cases hf
   |some q=>
    obtain⟨off,sz⟩:=q;rw[hp]at hf;cases hxc:x.cells? with
    |none=>rw[hxc]at hf;cases hf
    |some xs=>
     rw[hxc]at hf;simp only at hf|-;split at hf
     ·rename_i hcond;obtain⟨h1,h2,h3⟩:=hxy.cells hxc;have hle:off+y.cells.size<=arr.size:=by rw[h1,hc.1];omega
      rw[if_neg (by simp only[qZ,uF,not_or];omega)];obtain⟨f1,f2⟩:=Zry off y.cells arr hle;refine ih vs _ cs' _ (by simpa using hl) (λ k p v hk hv=>hr (k+1) p v (by simpa using hk) (by simpa using hv)) ⟨?_,?_,?_⟩ hf
      ·rw[f1,hc.1];simp[ZbX];omega
      ·intro j u hu;rw[f2]at hu;split at hu
       ·exact hc.2.1 j u hu
       ·split at hu
        ·exact h2 _ u hu
        ·exact hc.2.1 j u hu
      ·intro j q u hq hu;rw[f2]at hu;rw[ZjV cs off xs (by omega)]at hq;split at hq
       ·rename_i c1;rw[if_pos c1]at hu;exact hc.2.2 j q u hq hu
       ·rename_i c1;rw[if_neg c1]at hu;split at hq
        ·rename_i c2;rw[if_pos (by omega)]at hu;exact h3 _ q u hq hu
        ·rename_i c2;rw[if_neg (by omega)]at hu;exact hc.2.2 j q u hq hu
     ·cases hf
theorem ZDT (hS:Hold B X w0 n S a w ι){T:TypeId}{ps:Array (Nat×Operand)}(hd:∀t,dst=some t->t<n)(hx:∀p∈ps.toList,ZaD p.2=true)
  (hc:(Zhp (tyi P T) (ps.toList.map λ p=>(p.1,S.ev p.2))).1):
  ZaQ P B X w0 n ⟨dst, .build T ps,ty,pos,af,gd⟩ (S.app dst (Zhp (tyi P T) (ps.toList.map λ p=>(p.1,S.ev p.2))).2) a w:=by
 unfold Zhp at hc|-;cases hf:ZiU ((tyi P T).places[·]?) ((tyi P T).zero.map ZfR) (ps.toList.map λ p=>(p.1,S.ev p.2))with
 |none=>rw[hf]at hc;exact hc.elim
 |some cs=>
  rw[hf]at hc;obtain⟨hz,hb⟩:=hc;simp only;rw[ZaT];obtain⟨i,z,hi,hiz,hzs,hz1,hne,hzz⟩:=ZpC hz;have h0:Zmu w ι X ((tyi P T).zero.map ZfR) z.cells:=by
   refine⟨by simp[hzz],λ j v hj=>hz1 v (by simpa using gY hj),λ j p v hj hv=>?_⟩;rw[hzz,uI,qS,hv]at hj;cases hj;exact Zlg (hz1 v (by simpa using gY hv))
  obtain⟨arr,ha,hat⟩:=Zyw ((tyi P T).places[·]?) (ps.toList.map λ p=>(p.1,S.ev p.2)) (ps.toList.map λ p=>(p.1,a.eval p.2)) _ cs z.cells (by simp)
   (λ k p v hk hv=>by
    rw[uI]at hk hv;cases hp:ps.toList[k]? with
    |none=>rw[hp]at hk;cases hk
    |some q=>
     rw[hp]at hk hv;cases hk;cases hv;exact⟨rfl,hS.ev (hx q (uA hp))⟩) h0 hf
  have hbuilt:P.built T ((ps.map λ(i,x)=>(i,a.eval x))).toList=some arr:=by
   simp only[tyi]at hb ha;unfold Program.built;cases hu:P.underlying T with
   |none=>rw[hu]at hb;cases hb
   |some dd=>
    rw[hu]at hb ha;cases dd<;>simp only at hb ha<;>try (cases hb;done)
    rename_i fs;simp only[hi,hiz];cases hm:fs.toList.mapM (λ f=>(P.info? f.type).map λ i=>(f.offset,i.size))with
    |none=>rw[hm]at hb;cases hb
    |some pl=>
     rw[hm]at ha;simp only[yN]at ha;simp only[Array.toList_map];rw[<-ha]
     congr 1
     funext k
     simp
  have hr:=Go.run_build (P:=P) w T (ps.map λ(i,x)=>(i,a.eval x)) arr hbuilt;exact hS.goes hd (by simp only[execOp,Sem.run_bind,hr,Result.andThen_ok,Sem.run_pure]) (.ag cs arr hat.1 hat.2.1 hat.2.2)
def Ziw (w:World)(Y:Nat->Prop)(sz:Nat)(l:List D)(arr:Array Value):Prop:=
 arr.size=l.length*sz/\(∀d,d∈l->d.cells.length=sz)/\(∀(j:Nat) (v:Value),arr[j]? =some v->v.oneCell'=true)/\
 ∀(i:Nat) d (j:Nat) e v,l[i]? =some d->d.cells[j]? =some e->arr[i*sz+j]? =some v->D.At w Y e v
theorem Zyd (sz:Nat):∀(ps:List (Nat×Option D)) (vs:List (Nat×Value)) (l l':List D) (arr:Array Value),
  ps.length=vs.length->(∀(k:Nat) p v,ps[k]? =some p->vs[k]? =some v->p.1=v.1/\∀d,p.2=some d->D.At w (ownX ι X) d v.2)->Ziw w (ownX ι X) sz l arr->Zgr sz l ps=some l'->
  ∃arr',Instr.fill (λ i=>some (i*sz,sz)) arr vs=some arr'/\Ziw w (ownX ι X) sz l' arr'/\l'.length=l.length:=by
 intro ps
 induction ps with
 |nil=>
  intro vs l l' arr hl _ hc hf;cases vs with
  |nil=>simp[Zgr]at hf;subst hf;exact⟨arr,rfl,hc,rfl⟩
  |cons _ _=>cases hl
 |cons p ps ih=>
  intro vs l l' arr hl hr hc hf;cases vs with
  |nil=>cases hl
  |cons v vs=>
   obtain⟨i,x⟩:=p;obtain⟨i',y⟩:=v;obtain⟨hi,hxy⟩:=hr 0 _ _ rfl rfl;simp only at hi hxy;subst hi;cases x with
   |none=>simp[Zgr]at hf
   |some d=>
    simp only[Zgr]at hf;split at hf
    ·rename_i hcond;obtain⟨hlt,hsz,hnt⟩:=hcond;obtain⟨h1,h2,h3⟩:=(hxy d rfl).cells (by rintro q rfl;simp[D.notTup]at hnt);have hroom:i*sz+sz<=arr.size:=by
      have:(i+1)*sz<=l.length*sz:=yO _ hlt;rw[qJ]at this;rw[hc.1];omega
     simp only[Instr.fill];rw[if_neg (by simp only[qZ,uF,not_or];omega)];obtain⟨f1,f2⟩:=Zry (i*sz) y.cells arr (by omega)
     suffices hra:Ziw w (ownX ι X) sz (l.set i d) (y.cells.zipIdx.foldl (λ(cs:Array Value) (cj:Value×Nat)=>cs.setIfInBounds (i*sz+cj.2) cj.1) arr) by
      obtain⟨arr',e1,e2,e3⟩:=ih vs (l.set i d) l' _ (by simpa using hl) (λ k p v hk hv=>hr (k+1) p v (by simpa using hk) (by simpa using hv)) hra hf;exact⟨arr',e1,e2,by simpa using e3⟩
     refine⟨?_,?_,?_,?_⟩
     ·rw[f1,hc.1,yP]
     ·intro e he;rcases jQ he with he|rfl
      ·exact hc.2.1 e he
      ·exact hsz
     ·intro j u hu;rw[f2]at hu;split at hu
      ·exact hc.2.2.1 j u hu
      ·split at hu
       ·exact h2 _ u hu
       ·exact hc.2.2.1 j u hu
     ·intro k e j q u he hq hu;rw[f2]at hu;by_cases hk:k=i
      ·subst hk;rw[gQ hlt]at he;cases he;have hjs:j<sz:=by rw[<-hsz];exact(uB.1 hq).1
       rw[if_neg (by omega),if_pos (by omega)]at hu;exact h3 j q u hq (by rw[show k*sz+j-k*sz=j by omega]at hu;exact hu)
      ·rw[jJ (Ne.symm hk)]at he;have hjs:j<sz:=by rw[<-hc.2.1 e (uA he)];exact(uB.1 hq).1
       have hout:k*sz+j<i*sz\/i*sz+sz<=k*sz+j:=by
        rcases Nat.lt_or_gt_of_ne hk with hlt'|hgt
        ·left
         have:(k+1)*sz<=i*sz:=yO _ hlt';rw[qJ]at this;omega
        ·right
         have:(i+1)*sz<=k*sz:=yO _ hgt;rw[qJ]at this;omega
       rcases hout with ho|ho
       ·rw[if_pos ho]at hu;exact hc.2.2.2 k e j q u he hq hu
       ·rw[if_neg (by omega),if_neg (by omega)]at hu;exact hc.2.2.2 k e j q u he hq hu
    ·cases hf
theorem Zxg {v:Value}{Y:Nat->Prop}(h:v.oneCell'=true):D.At w Y (cellD v) v:=by
 unfold cellD;split
 ·exact .slnil none 0
 ·exact .sc v h
theorem Zxh {v:Value}:(cellD v).cells=[cellD v]:=by
 unfold cellD;split<;>rfl
theorem ZAU (agg:Bool)(vs:List Value)(h:agg=false->vs.length=1):(D.ofCells agg (vs.map cellD)).cells=vs.map cellD:=by
 unfold D.ofCells;cases agg with
 |true=>rfl
 |false=>
  have:=h rfl
  match vs,this with
  |[v],_=>exact Zxh
theorem ZvG {z:Array Value}{sz m:Nat}{agg:Bool}(hz:z.size=sz)(h1:∀v∈z.toList,v.oneCell'=true)(h0:sz≠0)(ha:agg=false->sz=1){Y:Nat->Prop}:
  Ziw w Y sz (List.replicate m (.ofCells agg (z.toList.map cellD))) ((Array.range (m*sz)).map (λ k=>z[k%z.size]!)):=by
 have hcl:(D.ofCells agg (z.toList.map cellD)).cells=z.toList.map cellD:=ZAU agg z.toList (λ h=>by simp[hz,ha h]);refine⟨by simp,λ d hd=>?_,λ j v hj=>?_,λ i d j e v hi he hv=>?_⟩
 ·rw[Aa hd,hcl];simp[hz]
 ·rw[kS]at hj;cases hr:(Array.range (m*sz))[j]? with
  |none=>rw[hr]at hj;cases hj
  |some q=>
   rw[hr]at hj;simp only[qB,yI]at hj;subst hj;have hlt:q%z.size<z.size:=De _ (by omega);rw[getElem!_pos z _ hlt];exact h1 _ (by simp)
 ·have hil:=(uB.1 hi).1;simp only[qW]at hil;rw[gH]at hi;split at hi
  ·cases hi;rw[hcl,uI]at he;cases hq:z.toList[j]? with
   |none=>rw[hq]at he;cases he
   |some q=>
    rw[hq]at he;cases he;have hjl:=(uB.1 hq).1;simp only[Bj]at hjl;have hlt:i*sz+j<m*sz:=by
     have:(i+1)*sz<=m*sz:=yO _ hil;rw[qJ]at this;omega
    rw[kS,Array.getElem?_range]at hv;simp only[hlt,if_true,qB,yI]at hv;have hmod:(i*sz+j)%z.size=j:=by rw[hz,Cp,Nat.mul_add_mod];exact Dc (by omega)
    rw[hmod,getElem!_pos z j hjl]at hv;rw[qS,uU hjl]at hq;cases hq;subst hv;exact Zxg (h1 _ (by simp))
  ·rename_i hn;exact absurd hil hn
end hold
section hold
variable {P:Program}{B X:Nat->Prop}{w0:W0}{w:World}{n:Nat}{S:St}{a:Act}{ι:Nat->Option Nat}{dst:Option Nat}{ty:TypeId}{pos:String}{af:Array Edge}{gd:Option (Nat×Bool)}
theorem Hold.ext (h:Hold B X w0 n S a w ι){w':World}(hb:RowKit.Below w.heap.size w w'):Hold B X w0 n S a w' ι:=by
 have h1:∀o b,ι o=some b->ι o=some b/\bsz w' b=bsz w b:=λ o b hob=>⟨hob,by simp only[bsz,hb.block b (h.free o b hob).2]⟩
 have h2:∀b,ownX ι X b->ownX ι X b\/w.heap.size<=b:=λ b hb=> .inl hb
 have h3:∀b,b<w.heap.size->¬ownX ι X b->w'.heap[b]? =w.heap[b]? :=λ b hlt _=>hb.block b hlt
 refine⟨h.size,h.defers,⟨hb.os.trans h.frame.os,hb.tape.trans h.frame.tape,hb.output.trans h.frame.output,gP h.frame.size hb.size,λ b hB=>?_⟩,h.hB,h.hXB,h.inj,
  λ o b hob=>⟨(h.free o b hob).1,gG (h.free o b hob).2 hb.size⟩,λ t=>(h.env t).move h1 h2 h3,λ o=>?_,λ o b hb0=>?_⟩
 ·rw[<-h.frame.keep b hB];exact hb.block b (gG (h.hB b hB) h.frame.size)
 ·exact(h.objs o).move rfl (λ _ b hob=>hb.block b (h.free o b hob).2) h1 h2 h3
 ·obtain⟨g1,g2,g3⟩:=h.stay o b hb0;exact⟨g1,g2,(h1 o b g2).2.trans g3⟩
theorem Hold.ownlt (h:Hold B X w0 n S a w ι){b:Nat}(hb:ownX ι X b):b<w.heap.size:=by
 rcases hb with hb|⟨o,hb⟩
 ·exact gG (h.hX b hb) h.frame.size
 ·exact(h.free o b hb).2
theorem Zpj {objs:Nat->Ob}:∀(k:Nat) (p:PV) (v:Value) (d:D),toD objs k p=some d->p.refs objs k=[]->PV.At w ι X p v->D.At w (ownX ι X) d v:=by
 intro k
 induction k with
 |zero=>intro p v d h;simp[toD]at h
 |succ k ih=>
  intro p v d h hr hp;have list:∀(cs:List PV) (ds:List D) (arr:Array Value),cs.mapM (toD objs k)=some ds->cs.flatMap (PV.refs objs k)=[]->
    (∀(j:Nat) p v,cs[j]? =some p->arr[j]? =some v->PV.At w ι X p v)->ds.length=cs.length/\∀(j:Nat) d v,ds[j]? =some d->arr[j]? =some v->D.At w (ownX ι X) d v:=by
   intro cs
   induction cs with
   |nil=>intro ds arr hm _ _;simp at hm;subst hm;simp
   |cons c cs ihc=>
    intro ds arr hm hf hat;simp only[jU]at hm;cases hc:toD objs k c with
    |none=>rw[hc]at hm;cases hm
    |some e=>
     rw[hc]at hm;cases hm2:cs.mapM (toD objs k)with
     |none=>rw[hm2]at hm;cases hm
     |some es=>
      rw[hm2]at hm;cases hm;simp only[gK,List.append_eq_nil_iff]at hf;obtain⟨g1,g2⟩:=ihc es (arr.extract 1 arr.size) hm2 hf.2 (λ j p v hj hv=>by
       rw[Array.getElem?_extract]at hv;split at hv
       ·exact hat (j+1) p v (by simpa using hj) (by rw[Nat.add_comm];exact hv)
       ·cases hv)
      refine⟨by simp[g1],λ j d v hj hv=>?_⟩;cases j with
      |zero=>simp at hj;subst hj;exact ih c v e hc hf.1 (hat 0 c v rfl hv)
      |succ j=>
       refine g2 j d v (by simpa using hj) ?_;have hlt:=(gB.1 hv).1;rw[Array.getElem?_extract];rw[if_pos (by simp;omega),Nat.add_comm];exact hv
  cases p with
  |d x=>simp[toD]at h;subst h;cases hp;assumption
  |nilS=>simp[toD]at h;subst h;cases hp;exact .slnil none 0
  |z0=>simp[toD]at h;subst h;cases hp;exact .slnil _ 0
  |unk=>simp[toD]at h
  |und=>simp[toD]at h
  |ab=>simp[toD]at h
  |mp _=>simp[toD]at h
  |ifp _ _=>simp[toD]at h
  |ref o sz off len cap=>
   exfalso;simp only[PV.refs]at hr;split at hr<;>simp at hr
  |ptr o sz i c=>
   exfalso;simp only[PV.refs]at hr;split at hr<;>simp at hr
  |ag cs=>
   simp only[toD]at h;cases hm:cs.mapM (toD objs k)with
   |none=>rw[hm]at h;cases h
   |some ds=>
    rw[hm]at h;cases h;cases hp with
    |ag _ arr hsz hone hat=>
     obtain⟨g1,g2⟩:=list cs ds arr hm (by simpa[PV.refs]using hr) hat;exact .ag ds arr (by omega) hone g2
  |tup cs=>
   simp only[toD]at h;cases hm:cs.mapM (toD objs k)with
   |none=>rw[hm]at h;cases h
   |some ds=>
    rw[hm]at h;cases h;cases hp with
    |tup _ arr hsz hat=>
     obtain⟨g1,g2⟩:=list cs ds arr hm (by simpa[PV.refs]using hr) hat;exact .tup ds arr (by omega) g2
  |fn f cs=>
   simp only[toD]at h;cases hm:cs.mapM (toD objs k)with
   |none=>rw[hm]at h;cases h
   |some ds=>
    rw[hm]at h;cases h;cases hp with
    |fn _ _ arr hsz hat=>
     obtain⟨g1,g2⟩:=list cs ds arr hm (by simpa[PV.refs]using hr) hat;exact .fn f ds arr (by omega) g2
theorem Zjw {t:TypeId}(h:(tyi P t).zok=true):∃i z,P.info? t=some i/\i.zero=some z/\z.cells.size=(tyi P t).size/\i.size=(tyi P t).size/\i.bytes=(tyi P t).bytes/\(∀v∈z.cells.toList,v.oneCell'=true)/\(tyi P t).size≠0/\(tyi P t).zero=z.cells.toList/\((tyi P t).agg=false->(tyi P t).size=1\/True):=by
 obtain⟨i,z,hi,hiz,hzs,hz1,hne,hzz⟩:=ZpC h;exact⟨i,z,hi,hiz,hzs,by simp[tyi,Program.cellsOf,hi],by simp[tyi,Program.bytesOf,hi],hz1,hne,hzz,λ _=> .inr trivial⟩
theorem ZDV (hS:Hold B X w0 n S a w ι){T:TypeId}{m:Nat}{ow:Bool}{ps:Array (Nat×Operand)}(hd:∀t,dst=some t->t<n)(hx:∀p∈ps.toList,ZaD p.2=true)
  (hc:(Zgc S.objs dst ow (tyi P T) (tyi P (tyi P T).elem) m (ps.toList.map λ p=>(p.1,S.ev p.2))).1):
  ZaQ P B X w0 n ⟨dst, .buildSlice T m ps,ty,pos,af,gd⟩ (S.app dst (Zgc S.objs dst ow (tyi P T) (tyi P (tyi P T).elem) m (ps.toList.map λ p=>(p.1,S.ev p.2))).2) a w:=by
 unfold Zgc at hc|-;generalize hls:Zgr (tyi P (tyi P T).elem).size (List.replicate m (.ofCells (tyi P (tyi P T).elem).agg ((tyi P (tyi P T).elem).zero.map cellD))) ((ps.toList.map λ p=>(p.1,S.ev p.2)).map λ p=>(p.1,toD S.objs 4 p.2))=res at hc|-;cases res with
 |none=>exact hc.elim
 |some l=>
  simp only at hc|-;have hmain:(tyi P T).kind=1/\(tyi P (tyi P T).elem).zok=true/\m*(tyi P (tyi P T).elem).size<=16777216/\((ps.toList.map λ p=>(p.1,S.ev p.2)).map (·.2)).flatMap (PV.refs S.objs 4)=[]:=by
   cases ow with
   |true=>
    cases dst with
    |none=>exact hc.elim
    |some t=>exact⟨hc.1,hc.2.1,hc.2.2.1,hc.2.2.2.1⟩
   |false=>exact hc
  obtain⟨hk,hz,hm,hrefs⟩:=hmain;have hu:=ZdT hk;obtain⟨ie,z,hie,hiz,hzs,hisz,_,hz1,hne,hzz,_⟩:=Zjw hz;have hagg:=ZvH hz;generalize he:(tyi P (tyi P T).elem)=ety at*;have h0:Ziw w (ownX ι X) ety.size (List.replicate m (.ofCells ety.agg (ety.zero.map cellD))) ((Array.range (m*ety.size)).map (λ k=>z.cells[k%z.cells.size]!)):=by
   rw[hzz];exact ZvG hzs hz1 hne hagg
  obtain⟨arr,ha,hat,hll⟩:=Zyd (w:=w) (ι:=ι) (X:=X) ety.size _ (ps.toList.map λ p=>(p.1,a.eval p.2)) _ l _ (by simp)
   (λ k p v hk hv=>by
    rw[uI]at hv;rw[gR,uI]at hk;cases hp:ps.toList[k]? with
    |none=>rw[hp]at hk;cases hk
    |some q=>
     rw[hp]at hk hv;cases hk;cases hv;refine⟨rfl,λ d hdd=>?_⟩;have hmem:q∈ps.toList:=uA hp;refine Zpj 4 (S.ev q.2) _ d hdd ?_ (hS.ev (hx q hmem));rw[Bu]at hrefs;exact hrefs _ (by simp only[gR,uP,Function.comp];exact⟨q,hmem,rfl⟩)) h0 hls
  simp only[qW]at hll;have hpos:m*ie.size=0->False\/True:=λ _=> .inr trivial
  have hr:(Instr.buildSlice T m (ps.map λ(i,x)=>(i,a.eval x))).run P w= .ok (.slice (some ⟨w.heap.size,0,none⟩) m m) (w.alloc (.cells arr (tyi P T).elem)):=by
   by_cases hm0:m=0
   ·subst hm0;simp only[jK]at ha;simp only[Instr.buildSlice,Sem.run_bind,run_underlying hu,Result.andThen_ok,sizeOf,typeInfo,hie,run_program,Sem.run_pure,jK];have e0:∀f:Nat->Value,(Array.range 0).map f=#[]:=λ f=>Array.eq_empty_of_size_eq_zero (by simp)
    rw[e0]at ha;simp[hisz,newRow];rw[e0];have ha':Instr.fill (λ i=>some (i*ety.size,ety.size)) #[] (ps.toList.map λ(x:Nat×Operand)=>(x.1,a.eval x.2))=some arr:=ha;rw[ha'];simp
   ·have hz0:m*ie.size≠0:=by rw[hisz];exact Nat.mul_ne_zero hm0 hne
    simp only[Instr.buildSlice,Sem.run_bind,run_underlying hu,Result.andThen_ok,sizeOf,typeInfo,hie,run_program,Sem.run_pure,Sem.run_ite];rw[hisz]at hz0|-;simp only[show¬(m*ety.size>2^24) by omega,jA,Sem.run_pure,Result.andThen_ok,hz0,Sem.run_bind,zeroValue,typeInfo,hie,hiz,run_program];simp only[Array.toList_map];have ha':Instr.fill (λ i=>some (i*ety.size,ety.size)) ((Array.range (m*ety.size)).map (λ k=>z.cells[k%z.cells.size]!)) (ps.toList.map λ(i,x)=>(i,a.eval x))=some arr:=ha;rw[ha'];simp[newRow]
  have hrun:(execOp a.eval ⟨dst, .buildSlice T m ps,ty,pos,af,gd⟩).run P w= .ok (.value (.slice (some ⟨w.heap.size,0,none⟩) m m)) (w.alloc (.cells arr (tyi P T).elem)):=by
   simp only[execOp,Sem.run_bind,hr,Result.andThen_ok,Sem.run_pure]
  have hold:∀b,b<w.heap.size->(w.alloc (.cells arr (tyi P T).elem)).heap[b]? =w.heap[b]? :=λ b hb=>heap_alloc_old w _ hb
  have hmax:m<=maxLen:=by
   have:m*1<=m*ety.size:=Nat.mul_le_mul_left _ (by omega);simp only[maxLen];omega
  cases ow with
  |false=>
   simp only[qD,jA];rw[ZaT];have hS':=hS.ext (w':=w.alloc (.cells arr (tyi P T).elem)) ⟨rfl,rfl,rfl,by simp,hold⟩;refine⟨_,_,ι, .inl hrun,hS'.put hd (.d _ _ ?_)⟩;have:=D.At.sl (w:=w.alloc (.cells arr (tyi P T).elem)) (X:=ownX ι X) l w.heap.size 0 m ety.size (by omega) hmax hat.2.1 (λ i j=>arr.getD (i*ety.size+j) undef) (λ i d j c hi hj=>?_) (λ i d j c hi hj=>?_)
   ·rw[hll]at this;exact this
   ·have hil:=(uB.1 hi).1;have hjl:j<ety.size:=by rw[<-hat.2.1 d (uA hi)];exact(uB.1 hj).1
    have hlt:i*ety.size+j<arr.size:=by
     have:(i+1)*ety.size<=l.length*ety.size:=yO _ hil;rw[qJ]at this;rw[hat.1];omega
    have hg:arr[i*ety.size+j]? =some arr[i*ety.size+j]:=uU hlt;have hgd:arr.getD (i*ety.size+j) undef=arr[i*ety.size+j]:=by simp[Array.getD,hlt]
    simp only[hgd];refine⟨?_,hat.2.2.1 _ _ hg,λ ho=>?_⟩
    ·rw[qT,Zdg (heap_alloc_new w _),hg]
    ·have:=hS.ownlt ho;omega
   ·have hil:=(uB.1 hi).1;have hjl:j<ety.size:=by rw[<-hat.2.1 d (uA hi)];exact(uB.1 hj).1
    have hlt:i*ety.size+j<arr.size:=by
     have:(i+1)*ety.size<=l.length*ety.size:=yO _ hil;rw[qJ]at this;rw[hat.1];omega
    have hg:arr[i*ety.size+j]? =some arr[i*ety.size+j]:=uU hlt;have hgd:arr.getD (i*ety.size+j) undef=arr[i*ety.size+j]:=by simp[Array.getD,hlt]
    simp only[hgd];exact(hat.2.2.2 i d j c _ hi hj hg).mono (λ b hb=> .inl hb) (λ b hb _=>hold b hb)
  |true=>
   cases dst with
   |none=>exact hc.elim
   |some t=>
    have hdead:S.objs t= .dead:=hc.2.2.2.2;simp only[if_true];have hob:Ob.At (w.alloc (.cells arr (tyi P T).elem)) (upd t (some w.heap.size) ι) X t (.row ety.size l):=
     .row ety.size l w.heap.size arr (tyi P T).elem (if_pos rfl) (heap_alloc_new w _) (by rw[hat.1];exact uJ _) hat.2.1 hat.2.2.1
      λ i d j e v hi hj hv=>(hat.2.2.2 i d j e v hi hj hv).alloc hS hdead hold
    have h1:=hS.alloc hdead (w.alloc (.cells arr (tyi P T).elem)) rfl rfl rfl (by simp) hold _ hob;refine⟨_,_,upd t (some w.heap.size) ι, .inl hrun,?_⟩;have h2:=h1.put (dst:=some t) (x:= .ref t ety.size 0 m m) (v:= .slice (some ⟨w.heap.size,0*ety.size,none⟩) m m) hd
     (.ref t ety.size 0 m m m w.heap.size (if_pos rfl) (uJ _) (uJ _) hmax (by simp only[bsz,heap_alloc_new w,hat.1,hll,qT]))
    rw[jK]at h2;exact h2
end hold
end Go.PS
