/- Binary operations. -/
import Derived.Test.YtjjbhjnpeenbkaaGreatDoorPSAt
import Derived.Laws.Strings
import Derived.Great.BuildSlice
set_option linter.unusedSimpArgs false
set_option linter.unusedVariables false
set_option maxHeartbeats 16000000
namespace Go.PS
open Go
section hold
variable {P:Program}{B X:Nat->Prop}{w0:W0}{w:World}{n:Nat}{S:St}{a:Act}{ι:Nat->Option Nat}{dst:Option Nat}{ty:TypeId}{pos:String}{af:Array Edge}{gd:Option (Nat×Bool)}
theorem ZBY (op:BinOp)(t:TypeId)(x y:Operand)(p q:Int):(eqGuard op t x y (.int .i64 p) (.int .i64 q)).run P w= .ok () w:=by
 cases op<;>simp[eqGuard]
theorem Ztn (op:BinOp)(t:TypeId)(x y:Operand)(p q:Bool):(eqGuard op t x y (.bool p) (.bool q)).run P w= .ok () w:=by
 cases op<;>simp[eqGuard]
theorem ZBS (op:BinOp)(t:TypeId)(p q:Int)(hc:(ZeP op p q).1):(binOp op t (.int .i64 p) (.int .i64 q)).run P w= .ok (ZeP op p q).2 w:=by
 cases op
 case and=>rfl
 case or=>rfl
 case xor=>rfl
 case andNot=>rfl
 all_goals (simp[ZeP]at hc|-;simp[binOp,Op.intArith,Op.intDiv,Op.intCmp,Op.shift,IntKind.bits,hc])
 all_goals first
  |rfl
  |(intro h;exact absurd h (by omega))
  |(rw[qV];simp)
theorem ZB4 (op:BinOp)(t:TypeId)(p q:Int)(ho:op= .shl\/op= .shr)(hc:(ZeP op p q).1):(binOp op t (.int .i64 p) (.int .u64 q)).run P w= .ok (ZeP op p q).2 w:=by
 rcases ho with rfl|rfl
 all_goals (simp[ZeP]at hc|-;simp[binOp,Op.shift,IntKind.bits])
 all_goals (intro h;exact absurd h (by omega))
theorem ZBT (op:BinOp)(t:TypeId)(p q:Int)(hc:(ZeQ op p q).1):(binOp op t (.int .u64 p) (.int .u64 q)).run P w= .ok (ZeQ op p q).2 w:=by
 cases op
 case and=>rfl
 case or=>rfl
 case xor=>rfl
 case andNot=>rfl
 case quo=>exact hc.elim
 case rem=>exact hc.elim
 all_goals (simp[ZeQ]at hc|-;simp[binOp,Op.intArith,Op.intCmp,Op.shift,IntKind.bits,hc])
 all_goals first
  |rfl
  |(intro h;exact absurd h (by omega))
  |(rw[qV];simp)
theorem ZB3 (op:BinOp)(t:TypeId)(p q:Int)(ho:op= .shl\/op= .shr)(hc:(ZeQ op p q).1):(binOp op t (.int .u64 p) (.int .i64 q)).run P w= .ok (ZeQ op p q).2 w:=by
 rcases ho with rfl|rfl
 all_goals (simp[ZeQ]at hc|-;simp[binOp,Op.shift,IntKind.bits])
 all_goals (intro h;exact absurd h (by omega))
theorem Zol (op:BinOp)(t:TypeId)(x y:Operand)(k j:IntKind)(p q:Int):(eqGuard op t x y (.int k p) (.int j q)).run P w= .ok () w:=by
 cases op<;>simp[eqGuard]
theorem ZpH (op:BinOp)(p q:Int):(ZeQ op p q).2.oneCell'=true:=by cases op<;>rfl
theorem ZgZ {k:IntKind}{m:Int}{v:Value}(h:PV.At w ι X (.d (.sc (.int k m))) v):v= .int k m:=by
 cases h with
 |d _ _ h=>cases h;rfl
theorem Zjt {s:ByteArray}{v:Value}(h:PV.At w ι X (.d (.sc (.string s))) v):v= .string s:=by
 cases h with
 |d _ _ h=>cases h;rfl
theorem ZpG (op:BinOp)(p q:Int):(ZeP op p q).2.oneCell'=true:=by cases op<;>rfl
theorem PV.At.agg {p:PV}{v:Value}{cs:List PV}(h:PV.At w ι X p v)(hc:p.agg?=some cs):
  ∃arr,v= .agg arr/\arr.size=cs.length/\∀(j:Nat) q u,cs[j]? =some q->arr[j]? =some u->PV.At w ι X q u:=by
 cases h with
 |ag cs' arr hsz hone h=>cases hc;exact⟨arr,rfl,hsz,h⟩
 |d x v h=>
  cases h with
  |ag cs' arr hsz hone h=>
   cases hc;refine⟨arr,rfl,by simpa using hsz,λ j q u hq hu=>?_⟩;rw[uJ]at hq;cases hj:cs'[j]? with
   |none=>rw[hj]at hq;cases hq
   |some d=>rw[hj]at hq;cases hq;exact .d _ _ (h j d u hj hu)
  |_=>cases hc
 |_=>cases hc
theorem ZBW {xs ys:Array Value}{cs ds:List PV}(hx:xs.size=cs.length)(hy:ys.size=ds.length)
  (h1:∀(j:Nat) q u,cs[j]? =some q->xs[j]? =some u->PV.At w ι X q u)(h2:∀(j:Nat) q u,ds[j]? =some q->ys[j]? =some u->PV.At w ι X q u)(d:Nat):
  ∀(fs:List Field) (k:Nat) (t:Bool),Zj8 P k fs=true->fs.length+k=cs.length->ZfU (cs.drop k) (ds.drop k)=some t->
   (Op.eqFields (d+1) xs ys fs).run P w= .ok t w:=by
 intro fs
 induction fs with
 |nil=>
  intro k t _ hl he;have hk:cs.drop k=[]:=by apply kS;simp at hl;omega
  rw[hk]at he;cases hd:ds.drop k with
  |nil=>rw[hd]at he;cases he;rfl
  |cons q r=>rw[hd]at he;simp[ZfU]at he
 |cons f fs ih=>
  intro k t hp hl he;simp only[Zj8,uM,Cn,ne_eq,zR]at hp;obtain⟨⟨⟨hn,ho⟩,hu⟩,hp⟩:=hp;have hk:k<cs.length:=by simp at hl;omega
  have hck:cs.drop k=cs[k]::cs.drop (k+1):=qS hk;rw[hck]at he;cases hdd:ds.drop k with
  |nil=>
   rw[hdd]at he;cases hq:cs[k]<;>rw[hq]at he<;>simp[ZfU]at he
  |cons q r=>
   have hkd:k<ds.length:=by
    have:=gB List.length hdd;simp at this;omega
   have hdk:ds.drop k=ds[k]::ds.drop (k+1):=qS hkd;rw[hdk]at he;have ha:=h1 k cs[k] xs[k] (uQ hk) (uV (by omega));have hb:=h2 k ds[k] ys[k] (uQ hkd) (uV (by omega));have hxk:xs[k]? =some xs[k]:=uV (by omega);have hyk:ys[k]? =some ys[k]:=uV (by omega);have hagg:(isAgg f.type).run P w= .ok false w:=by
    simp only[isAgg];cases hq:P.underlying f.type with
    |none=>rw[hq]at hu;cases hu
    |some dd=>
     rw[hq]at hu;simp only[Sem.run_bind,run_underlying hq,Result.andThen_ok];cases dd<;>simp at hu<;>rfl
   have px:(part f.type xs f.offset).run P w= .ok xs[k] w:=by simp[part,hagg,ho,hxk]
   have py:(part f.type ys f.offset).run P w= .ok ys[k] w:=by simp[part,hagg,ho,hyk]
   have core:∀(r1:Bool) (t':Bool),(Op.equalIn (d+1) f.type xs[k] ys[k]).run P w= .ok r1 w->ZfU (cs.drop (k+1)) (ds.drop (k+1))=some t'->t=(r1&&t')->
     (Op.eqFields (d+1) xs ys (f::fs)).run P w= .ok t w:=by
    intro r1 t' hr he' ht;simp only[Op.eqFields,ne_eq,hn,not_false_eq_true,if_true,Sem.run_bind,px,py,Result.andThen_ok,hr];cases r1
    ·simp[ht]
    ·simp only[Cu,qD,jE];rw[ih (k+1) t' hp (by simp at hl|-;omega) he',ht];simp
   generalize cs[k]=pk at he ha;generalize ds[k]=qk at he hb;generalize xs[k]=xk at ha core;generalize ys[k]=yk at hb core;unfold ZfU at he;split at he
   ·rename_i h;cases h
   ·rename_i p1 r1 p2 r2 e1 e2;cases e1;cases e2;cases hq:ZfU (cs.drop (k+1)) (ds.drop (k+1))with
    |none=>rw[hq]at he;cases he
    |some t'=>
     rw[hq]at he;cases he;have:=Zbz ha;subst this;have:=Zbz hb;subst this;refine core _ t' ?_ hq rfl;cases hq2:P.underlying f.type with
     |none=>rw[hq2]at hu;cases hu
     |some dd=>
      rw[hq2]at hu;cases dd<;>simp at hu
      rw[run_equalIn_int w d f.type .i64 _ _ _ hq2]
      congr 1
   ·cases he
theorem ZAd {t:TypeId}(h:(tyi P t).peq=true):P.underlying t=some (.struct (P.fieldsOf t))/\Zj8 P 0 (P.fieldsOf t).toList=true/\P.stoodInHeld t=false/\P.eqGuardType P.depth t=false/\(P.fieldsOf t).size=P.cellsOf t:=by
 simp only[tyi,Program.fieldsOf]at h|-;cases hu:P.underlying t with
 |none=>rw[hu]at h;simp at h
 |some d=>rw[hu]at h;cases d<;>simp at h|-;exact⟨h.1.1.1,h.1.1.2,h.1.2,h.2⟩
theorem ZBX (w:World)(d:Nat)(T:TypeId)(base:Option Addr)(len cap:Nat){e:TypeId}(hu:P.underlying T=some (.slice e)):
  (Op.equalIn (d+1) T (.slice base len cap) (.slice none 0 0)).run P w= .ok base.isNone w:=by
 cases base<;>simp[Op.equalIn,run_underlying hu]
theorem Zzx {p r:PV}{v:Value}(h:Zcb p=some r)(hp:PV.At w ι X p v):
  ∃base len cap,v= .slice base len cap/\PV.At w ι X r (.bool base.isNone)/\(r= .ab\/∃b,r= .bool b):=by
 cases hp with
 |nilS=>simp only[Zcb,yM]at h;subst h;exact⟨_,_,_,rfl, .d _ _ (.sc _ rfl), .inr ⟨_,rfl⟩⟩
 |z0 base=>simp only[Zcb,yM]at h;subst h;exact⟨_,_,_,rfl, .ab _, .inl rfl⟩
 |ref0 o sz off base=>simp only[Zcb,yM,Cm,if_true]at h;subst h;exact⟨_,_,_,rfl, .ab _, .inl rfl⟩
 |ref o sz off len cap capr b hι hl hc hm hs=>
  simp only[Zcb,yM]at h;split at h
  ·subst h;exact⟨_,_,_,rfl, .ab _, .inl rfl⟩
  ·subst h;exact⟨_,_,_,rfl, .d _ _ (.sc _ rfl), .inr ⟨_,rfl⟩⟩
 |d x v h'=>
  cases h' with
  |slnil base cap=>simp only[Zcb,yM,List.isEmpty_nil,if_true]at h;subst h;exact⟨_,_,_,rfl, .ab _, .inl rfl⟩
  |sl l b off cap sz hl hc hsz vals hv hh=>
   simp only[Zcb,yM]at h;split at h
   ·subst h;exact⟨_,_,_,rfl, .ab _, .inl rfl⟩
   ·subst h;exact⟨_,_,_,rfl, .d _ _ (.sc _ rfl), .inr ⟨_,rfl⟩⟩
  |sc v hv=>simp[Zcb]at h
  |ag=>simp[Zcb]at h
  |tup=>simp[Zcb]at h
  |pt=>simp[Zcb]at h
  |fn=>simp[Zcb]at h
 |ptr=>simp[Zcb]at h
 |ag=>simp[Zcb]at h
 |tup=>simp[Zcb]at h
 |fn=>simp[Zcb]at h
 |unk=>simp[Zcb]at h
 |und=>simp[Zcb]at h
 |ab=>simp[Zcb]at h
 |mp=>simp[Zcb]at h
 |ifp=>simp[Zcb]at h
theorem ZzE {r:PV}{b:Bool}(h:PV.At w ι X r (.bool b))(hsh:r= .ab\/∃b,r= .bool b):PV.At w ι X (ZnJ r) (.bool (!b)):=by
 rcases hsh with rfl|⟨c,rfl⟩
 ·exact .ab _
 ·cases h with
  |d _ _ h=>cases h;exact .d _ _ (.sc _ rfl)
theorem ZBU (op:BinOp)(t:TypeId)(p q:Int)(hc:(Ziv op p q).1):(binOp op t (.int .u8 p) (.int .u8 q)).run P w= .ok (.bool (Ziv op p q).2) w:=by
 cases op<;>first|exact hc.elim|rfl|(simp[binOp,Op.intCmp,Ziv];done)
theorem ZtU (a b:ByteArray):(a.toList==b.toList)=decide (a=b):=by
 rw[ByteArray.toList_eq,ByteArray.toList_eq,qV,zR,uF];refine⟨λ h=>?_,λ h=>by rw[h]⟩;obtain⟨⟨x⟩⟩:=a;obtain⟨⟨y⟩⟩:=b;simp only at h;rw[h]
theorem ZCy (hS:Hold B X w0 n S a w ι){op:BinOp}{T T':TypeId}{x y:Operand}(hd:∀t,dst=some t->t<n)(hx:ZaD x=true)(hy:ZaD y=true)
  (hc:(Zhg op (tyi P T) (S.ev x) (S.ev y)).1):ZaN P B X w0 n ⟨dst, .binOp op T x y T',ty,pos,af,gd⟩ (S.app dst (Zhg op (tyi P T) (S.ev x) (S.ev y)).2) a w:=by
 have hp:=hS.ev hx;have hq:=hS.ev hy;generalize S.ev x=p at hc hp;generalize S.ev y=q at hc hq;unfold Zhg at hc|-;split at hc
 ·cases hn:Zcb p with
  |none=>rw[hn]at hc;exact hc.elim
  |some r=>
   rw[hn]at hc;obtain⟨hk,ho⟩:=hc;simp only;rw[ZaR];obtain⟨base,len,cap,e1,hr,hsh⟩:=Zzx hn hp;have e2:a.eval y= .slice none 0 0:=by
    generalize a.eval y=v at hq;cases hq;rfl
   have he:=ZBX (P:=P) w 9999 T base len cap (ZdM hk);have hg:(eqGuard op T x y (.slice base len cap) (.slice none 0 0)).run P w= .ok () w:=by rcases ho with rfl|rfl<;>simp[eqGuard]
   rcases ho with rfl|rfl
   ·refine hS.goes (v:= .bool base.isNone) hd ?_ (by simpa using hr);simp[execOp,e1,e2,hg,binOp,Op.equal,Op.maxDepth,he]
   ·refine hS.goes (v:= .bool (!base.isNone)) hd ?_ (by simpa using ZzE hr hsh);simp[execOp,e1,e2,hg,binOp,Op.equal,Op.maxDepth,he]
 ·rename_i m k;simp only;rw[ZaR];have e1:=Zbz hp;have e2:=Zbz hq;exact hS.goes hd (by simp only[execOp,e1,e2,Sem.run_bind,ZBY,Result.andThen_ok,ZBS op T m k hc,Sem.run_pure]) (.d _ _ (.sc _ (ZpG op m k)))
 ·rename_i m k;obtain⟨ho,hc⟩:=hc;simp only;rw[ZaR];have e1:=Zbz hp;have e2:a.eval y= .int .u64 k:=by
   generalize a.eval y=v at hq;cases hq with
   |d _ _ h=>cases h;rfl
  have hg:(eqGuard op T x y (.int .i64 m) (.int .u64 k)).run P w= .ok () w:=by rcases ho with rfl|rfl<;>simp[eqGuard]
  exact hS.goes hd (by simp only[execOp,e1,e2,Sem.run_bind,hg,Result.andThen_ok,ZB4 op T m k ho hc,Sem.run_pure]) (.d _ _ (.sc _ (ZpG op m k)))
 ·rename_i m k;simp only;rw[ZaR];have e1:=ZgZ hp;have e2:=ZgZ hq;exact hS.goes hd (by simp only[execOp,e1,e2,Sem.run_bind,Zol,Result.andThen_ok,ZBT op T m k hc,Sem.run_pure]) (.d _ _ (.sc _ (ZpH op m k)))
 ·rename_i m k;obtain⟨ho,hc⟩:=hc;simp only;rw[ZaR];have e1:=ZgZ hp;have e2:=ZgZ hq;exact hS.goes hd (by simp only[execOp,e1,e2,Sem.run_bind,Zol,Result.andThen_ok,ZB3 op T m k ho hc,Sem.run_pure]) (.d _ _ (.sc _ (ZpH op m k)))
 ·rename_i m k;obtain⟨hk,ho⟩:=hc;simp only;rw[ZaR];have e1:=Zjs hp;have e2:=Zjs hq;have hu:=Zyl hk;have he:=run_equalIn_bool' (P:=P) w 9999 T m k hu;rw[show(m==k)=decide (m=k) by cases m<;>cases k<;>rfl]at he;rcases ho with rfl|rfl
  ·refine hS.goes (v:= .bool (decide (m=k))) hd ?_ (.d _ _ (.sc _ rfl));simp[execOp,e1,e2,Ztn,binOp,Op.equal,Op.maxDepth,he]
  ·refine hS.goes (v:= .bool (!decide (m=k))) hd ?_ (.d _ _ (.sc _ rfl));simp[execOp,e1,e2,Ztn,binOp,Op.equal,Op.maxDepth,he]
 ·rename_i m k;simp only;rw[ZaR];have e1:=ZgZ hp;have e2:=ZgZ hq;exact hS.goes hd (by simp only[execOp,e1,e2,Sem.run_bind,Zol,Result.andThen_ok,ZBU op T m k hc,Sem.run_pure]) (.d _ _ (.sc _ rfl))
 ·rename_i m k;simp only;rw[ZaR];have e1:=Zjt hp;have e2:=Zjt hq;rcases hc with rfl|rfl
  ·refine hS.goes (v:= .bool (decide (m=k))) hd ?_ (.d _ _ (.sc _ rfl));simp[execOp,e1,e2,eqGuard,binOp,Op.stringOp,ZtU]
  ·refine hS.goes (v:= .bool (!decide (m=k))) hd ?_ (.d _ _ (.sc _ rfl));simp[execOp,e1,e2,eqGuard,binOp,Op.stringOp,ZtU]
 ·cases hcs:p.agg? with
  |none=>rw[hcs]at hc;exact hc.elim
  |some cs=>
   cases hds:q.agg? with
   |none=>rw[hcs,hds]at hc;exact hc.elim
   |some ds=>
    rw[hcs,hds]at hc;simp only at hc|-;cases ht:ZfU cs ds with
    |none=>rw[ht]at hc;exact hc.elim
    |some t=>
     rw[ht]at hc;obtain⟨hpe,hln,ho⟩:=hc;simp only;rw[ZaR];obtain⟨xs,e1,hxs,h1⟩:=hp.agg hcs;obtain⟨ys,e2,hys,h2⟩:=hq.agg hds;obtain⟨hu,hpf,hst,hg,hsz⟩:=ZAd hpe;have hr:=ZBW (P:=P) hxs hys h1 h2 9998 (P.fieldsOf T).toList 0 t hpf (by simp only[tyi]at hln;simp;omega) (by simpa using ht);have he:=run_equalIn_struct (P:=P) w 9999 T xs ys hu hst;rw[hr]at he;rcases ho with rfl|rfl
     ·refine hS.goes (v:= .bool t) hd ?_ (.d _ _ (.sc _ rfl));simp[execOp,e1,e2,run_eqGuard_agg w _ T _ _ xs ys hg,binOp,Op.equal,Op.maxDepth,he]
     ·refine hS.goes (v:= .bool (!t)) hd ?_ (.d _ _ (.sc _ rfl));simp[execOp,e1,e2,run_eqGuard_agg w _ T _ _ xs ys hg,binOp,Op.equal,Op.maxDepth,he]
end hold
section hold
variable {P:Program}{B X:Nat->Prop}{w0:W0}{w:World}{n:Nat}{S:St}{a:Act}{ι:Nat->Option Nat}{dst:Option Nat}{ty:TypeId}{pos:String}{af:Array Edge}{gd:Option (Nat×Bool)}
theorem Hold.dead (h:Hold B X w0 n S a w ι){t:Nat}(hd:S.objs t= .dead):ι t=none:=by
 have:=h.objs t;rw[hd]at this;cases this;assumption
theorem Hold.alloc (h:Hold B X w0 n S a w ι){t:Nat}(hd:S.objs t= .dead)(w':World)(hos:w'.os=w.os)(htape:w'.tape=w.tape)(hout:w'.output=w.output)
  (hsize:w'.heap.size=w.heap.size+1)(hold:∀b,b<w.heap.size->w'.heap[b]? =w.heap[b]?)(ob:Ob)
  (hob:Ob.At w' (upd t (some w.heap.size) ι) X t ob):
  Hold B X w0 n {env:=S.env,objs:=upd t ob S.objs} a w' (upd t (some w.heap.size) ι):=
 h.change none t ob (upd t (some w.heap.size) ι) w' hos htape hout (by omega) (λ o' hne=>if_neg hne) (λ b hb=>by rw[h.dead hd]at hb;cases hb) (λ b hb=>by cases hb) (λ b hb _=>hold b hb)
  (λ b hb=>by rw[upd,if_pos rfl]at hb;cases hb;exact⟨.inr (.inl (uI _)),by omega⟩) hob
theorem PV.At.alloc (h:Hold B X w0 n S a w ι){t:Nat}(hd:S.objs t= .dead){w':World}
  (hold:∀b,b<w.heap.size->w'.heap[b]? =w.heap[b]?){p:PV}{v:Value}(hp:PV.At w ι X p v):PV.At w' (upd t (some w.heap.size) ι) X p v:=by
 have hn:=h.dead hd;refine hp.move (λ o b hb=>?_) (λ b hb=>?_) (λ b hb _=>hold b hb)
 ·have hne:o≠t:=λ he=>by rw[he,hn]at hb;cases hb
  exact⟨by rw[upd,if_neg hne];exact hb,by simp only[bsz,hold b (h.free o b hb).2]⟩
 ·rcases hb with hb|⟨o,hb⟩
  ·exact .inl (.inl hb)
  ·by_cases he:o=t
   ·subst he;rw[upd,if_pos rfl]at hb;cases hb;exact .inr (uI _)
   ·rw[upd,if_neg he]at hb;exact .inl (.inr ⟨o,hb⟩)
theorem D.At.alloc (h:Hold B X w0 n S a w ι){t:Nat}(hd:S.objs t= .dead){w':World}
  (hold:∀b,b<w.heap.size->w'.heap[b]? =w.heap[b]?){p:D}{v:Value}(hp:D.At w (ownX ι X) p v):D.At w' (ownX (upd t (some w.heap.size) ι) X) p v:=by
 have:=PV.At.alloc h hd hold (.d _ _ hp);cases this;assumption
theorem Zq0 (hS:Hold B X w0 n S a w ι){t:Nat}{o:Oper}(hdst:o.dst=some t)(ht:t<n)(hd:S.objs t= .dead)(cs:List PV)(arr:Array Value)(T:TypeId)
  (hr:(execOp a.eval o).run P w= .ok (.value (.pointer (some ⟨w.heap.size,0,none⟩))) (w.alloc (.cells arr T)))
  (hsz:arr.size=cs.length)(hone:∀(j:Nat) (v:Value),arr[j]? =some v->v.oneCell'=true)(hat:∀(j:Nat) p v,cs[j]? =some p->arr[j]? =some v->PV.At w ι X p v):
  ZaN P B X w0 n o (S.app o.dst {val:= .ptr t 0 0 0,wr:=[(t, .cells cs)]}) a w:=by
 have hold:∀b,b<w.heap.size->(w.alloc (.cells arr T)).heap[b]? =w.heap[b]? :=λ b hb=>heap_alloc_old w _ hb
 have hob:Ob.At (w.alloc (.cells arr T)) (upd t (some w.heap.size) ι) X t (.cells cs):=
  .cells cs w.heap.size arr T (if_pos rfl) (heap_alloc_new w _) (Nat.le_of_eq hsz.symm) hone λ j p v hj hv=>(hat j p v hj hv).alloc hS hd hold
 have h1:=hS.alloc hd (w.alloc (.cells arr T)) rfl rfl rfl (by simp) hold _ hob;refine⟨_,_,upd t (some w.heap.size) ι, .inl hr,?_⟩;have h2:=h1.put (dst:=o.dst) (x:= .ptr t 0 0 0) (v:= .pointer (some ⟨w.heap.size,0*0+0,none⟩)) (λ u hu=>by rw[hdst]at hu;cases hu;exact ht)
  (.ptr t 0 0 0 w.heap.size (if_pos rfl))
 rw[hdst]at h2|-;exact h2
theorem ZCt (hS:Hold B X w0 n S a w ι){T:TypeId}(hd:∀t,dst=some t->t<n)(hc:(ZgK (tyi P T) S.objs dst).1):
  ZaN P B X w0 n ⟨dst, .alloc T,ty,pos,af,gd⟩ (S.app dst (ZgK (tyi P T) S.objs dst).2) a w:=by
 unfold ZgK at hc|-;cases dst with
 |none=>exact hc.elim
 |some t=>
  obtain⟨hz,hdead⟩:=hc;obtain⟨i,z,hi,hiz,hzs,hz1,hne,hzz⟩:=Zo4 hz;refine Zq0 (P:=P) (o:=⟨some t, .alloc T,ty,pos,af,gd⟩) hS rfl (hd t rfl) hdead _ z.cells T ?_ (by simp[hzz]) (λ j v hj=>?_) (λ j p v hj hv=>?_)
  ·simp[execOp,Instr.alloc,zeroValue,typeInfo,hi,hiz,newVar,newRow]
  ·exact hz1 v (by simpa using jB hj)
  ·rw[hzz,uJ,qR,hv]at hj;cases hj;exact ZkW (hz1 v (by simpa using jB hv))
theorem ZCz (hS:Hold B X w0 n S a w ι){T:TypeId}{x:Operand}(hd:∀t,dst=some t->t<n)(hx:ZaD x=true)(hc:(ZgL S.objs dst (S.ev x).cells?).1):
  ZaN P B X w0 n ⟨dst, .box T x,ty,pos,af,gd⟩ (S.app dst (ZgL S.objs dst (S.ev x).cells?).2) a w:=by
 have hp:=hS.ev hx;unfold ZgL at hc|-;cases dst with
 |none=>exact hc.elim
 |some t=>
  cases hcs:(S.ev x).cells? with
  |none=>rw[hcs]at hc;exact hc.elim
  |some cs=>
   rw[hcs]at hc;obtain⟨h1,h2,h3⟩:=hp.cells hcs;exact Zq0 (P:=P) (o:=⟨some t, .box T x,ty,pos,af,gd⟩) hS rfl (hd t rfl) hc _ (a.eval x).cells T (by simp[execOp,Instr.box,newVar,newRow]) h1 h2 h3
theorem ZjC {α:Type}(cs:List α)(c:Nat)(xs:List α)(h:c+xs.length<=cs.length)(j:Nat):
  (ZbZ cs c xs)[j]? =if j<c then cs[j]? else if j<c+xs.length then xs[j-c]? else cs[j]? :=by
 unfold ZbZ;rw[qJ,jG];simp only[yF,jM (show c<=cs.length by omega)];split
 ·rw[jI (by assumption)]
 ·rw[jG];split
  ·rw[if_pos (by omega)]
  ·rw[if_neg (by omega),gA]
   congr 1;omega
theorem ZlO (w:World)(g:Nat)(cs:Array Value):(w.setRow g cs).heap.size=w.heap.size:=by simp[World.setRow]
theorem ZfO (arr:Array Value)(p:Nat)(vs:List Value)(h:p+vs.length<=arr.size)(j:Nat):
  ((arr.toList.take p++vs++arr.toList.drop (p+vs.length)).toArray)[j]? =if j<p then arr[j]? else if j<p+vs.length then vs[j-p]? else arr[j]? :=by
 have:=ZjC arr.toList p vs (by simpa using h) j;simp only[ZbZ]at this;rw[kW,this];simp only[qR]
theorem ZdA (arr:Array Value)(p:Nat)(vs:List Value)(h:p+vs.length<=arr.size):((arr.toList.take p++vs++arr.toList.drop (p+vs.length)).toArray).size=arr.size:=by
 simp;omega
theorem Zq1 (hS:Hold B X w0 n S a w ι){o:Oper}(hdst:o.dst=none){q b:Nat}{arr:Array Value}{T:TypeId}(hlive:S.objs q≠ .gone)(hι:ι q=some b)(hb:w.heap[b]? =some (.cells arr T (0,0)))
  (p:Nat)(vs:List Value)(hlen:p+vs.length<=arr.size)(ob:Ob)
  (hr:(execOp a.eval o).run P w= .ok .skip (w.setRow b (arr.toList.take p++vs++arr.toList.drop (p+vs.length)).toArray))
  (hob:Ob.At (w.setRow b (arr.toList.take p++vs++arr.toList.drop (p+vs.length)).toArray) ι X q ob):
  ZaN P B X w0 n o (S.app o.dst {val:= .unk,wr:=[(q,ob)]}) a w:=by
 have h1:=hS.change (some b) q ob ι (w.setRow b (arr.toList.take p++vs++arr.toList.drop (p+vs.length)).toArray) rfl rfl rfl (by simp) (λ _ _=>rfl) (λ _ h=>h)
  (λ b' hb'=>by
   cases hb';exact⟨⟨q,hι⟩,λ o' hne hg ho'=>hne (hS.inj o' q b hg hlive ho' hι),by simp only[bsz,hb,setRow_heap w b arr _ T (0,0) hb,ZdA arr p vs hlen]⟩)
  (λ b' _ hne=>setRow_other w b b' _ (λ he=>hne (by rw[he])))
  (λ b' hb'=>⟨.inl ⟨hb',hlive⟩,by rw[ZlO];exact(hS.free q b' hb').2⟩) hob
 refine⟨undef,_,ι, .inr ⟨hr,rfl⟩,?_⟩;rw[hdst];exact h1
theorem PV.At.store (_hS:Hold B X w0 n S a w ι){q b:Nat}{arr arr':Array Value}{T:TypeId}(hι:ι q=some b)(hb:w.heap[b]? =some (.cells arr T (0,0)))(hsz:arr'.size=arr.size)
  {p:PV}{v:Value}(hp:PV.At w ι X p v):PV.At (w.setRow b arr') ι X p v:=by
 refine hp.move (λ o b' hb'=>⟨hb',?_⟩) (λ b' hb'=> .inl hb') (λ b' hlt hne=>setRow_other w b b' _ (λ he=>hne (.inr ⟨q,he▸hι⟩)));by_cases he:b'=b
 ·subst he;simp only[bsz,hb,setRow_heap w b' arr _ T (0,0) hb,hsz]
 ·simp only[bsz,setRow_other w b b' _ he]
theorem D.At.store (hS:Hold B X w0 n S a w ι){q b:Nat}{arr arr':Array Value}{T:TypeId}(hι:ι q=some b)(hb:w.heap[b]? =some (.cells arr T (0,0)))(hsz:arr'.size=arr.size)
  {p:D}{v:Value}(hp:D.At w (ownX ι X) p v):D.At (w.setRow b arr') (ownX ι X) p v:=by
 have:=PV.At.store hS hι hb hsz (.d _ _ hp);cases this;assumption
theorem Zy6 {vs:List PV}{ds:List D}(h:vs.mapM PV.asD=some ds):ds.length=vs.length/\∀(j:Nat) d,ds[j]? =some d->∃p,vs[j]? =some p/\p.asD=some d:=by
 induction vs generalizing ds with
 |nil=>simp at h;subst h;simp
 |cons p vs ih=>
  simp only[kB]at h;cases hp:p.asD with
  |none=>rw[hp]at h;cases h
  |some d=>
   rw[hp]at h;cases hr:vs.mapM PV.asD with
   |none=>rw[hr]at h;cases h
   |some r=>
    rw[hr]at h;cases h;obtain⟨h1,h2⟩:=ih hr;refine⟨by simp[h1],λ j e he=>?_⟩;cases j with
    |zero=>simp at he;subst he;exact⟨p,rfl,hp⟩
    |succ j=>simp at he;obtain⟨q,hq,hqe⟩:=h2 j e he;exact⟨q,by simpa using hq,hqe⟩
theorem PV.At.asD {p:PV}{v:Value}{d:D}(h:PV.At w ι X p v)(hd:p.asD=some d):D.At w (ownX ι X) d v:=by
 cases h with
 |d x v h=>cases hd;exact h
 |nilS=>cases hd;exact .slnil none 0
 |z0 base=>cases hd;exact .slnil base 0
 |_=>cases hd
theorem Zzi {x:D}{cs:List D}(hl:cs.length=x.cells.length)(h1:∀d,cs=[d]->d.cells=[d]):(mkD x cs).cells=cs:=by
 unfold mkD;split
 ·rfl
 ·rename_i hx;have:cs.length=1:=by rw[hl];cases x<;>first|rfl|exact absurd rfl (hx _)
  match cs,this with
  |[d],_=>exact h1 d rfl
theorem ZCY (hS:Hold B X w0 n S a w ι){T:TypeId}{x y:Operand}(hdn:dst=none)(hx:ZaD x=true)(hy:ZaD y=true)
  (hc:(ZeF (tyi P T) S.objs (S.ev x) (S.ev y).cells?).1):ZaN P B X w0 n ⟨dst, .store T x y,ty,pos,af,gd⟩ (S.app dst (ZeF (tyi P T) S.objs (S.ev x) (S.ev y).cells?).2) a w:=by
 have hp:=hS.ev hx;have hq:=hS.ev hy;generalize S.ev x=p at hc hp;unfold ZeF at hc|-;split at hc
 ·rename_i o sz i c vs hcs;obtain⟨hvl,hok,hc⟩:=hc;simp only;obtain⟨q1,q2,q3⟩:=hq.cells hcs;generalize hva:a.eval x=va at hp;cases hp with
  |ptr o sz i c b hι=>
   have hob:=hS.objs o;generalize hgo:S.objs o=ob at hob hc;have hone':∀v∈(a.eval y).cells.toList,v.oneCell'=true:=λ v hv=>by
    obtain⟨j,hj⟩:=yW hv;exact q2 j v (by simpa using hj)
   have hlen:(a.eval y).cells.toList.length=vs.length:=by simpa using q1
   have run:∀(arr:Array Value) (T':TypeId),w.heap[b]? =some (.cells arr T' (0,0))->i*sz+c+vs.length<=arr.size->
     (execOp a.eval ⟨dst, .store T x y,ty,pos,af,gd⟩).run P w= .ok .skip (w.setRow b (arr.toList.take (i*sz+c)++(a.eval y).cells.toList++arr.toList.drop (i*sz+c+(a.eval y).cells.toList.length)).toArray):=by
    intro arr T' hb hl;have hst:=run_storeCells_at P b (i*sz+c) T' (a.eval y).cells.toList 0 arr w hb (by rw[hlen];omega) hone';have hcs':(a.eval y).cells.size=P.cellsOf T:=by simp[tyi]at hvl;omega
    simp only[execOp,Instr.storeAt,hva,Instr.sureAddr,Sem.run_bind,Sem.run_pure,Result.andThen_ok,storeVar,Zto hok,hcs',ne_eq,not_true_eq_false,jE,hst,jA]
   cases hob with
   |dead h=>exact hc.elim
   |gone=>exact hc.elim
   |imap=>exact hc.elim
   |iter=>exact hc.elim
   |row0 sz' h=>rw[h]at hι;cases hι
   |cells cs b' arr T' hι' hb hsz hone h=>
    rw[hι]at hι';cases hι';simp only[Zkl]at hc|-;have run:=run arr T' hb;generalize i*sz+c=r at hc run|-;have hl:=hc;have hl':r+vs.length<=arr.size:=by omega
    have hls:r+(a.eval y).cells.toList.length<=arr.size:=by rw[hlen];exact hl'
    refine Zq1 (P:=P) (o:=⟨dst, .store T x y,ty,pos,af,gd⟩) hS hdn (by rw[hgo];simp) hι hb r (a.eval y).cells.toList hls _ (run hl') ?_;refine .cells _ b _ T' hι (setRow_heap w b arr _ T' (0,0) hb) ?_ (λ j v hj=>?_) (λ j p v hj hv=>?_)
    ·rw[ZdA _ _ _ hls];simp[ZbZ];omega
    ·rw[ZfO _ _ _ hls]at hj;split at hj
     ·exact hone j v hj
     ·split at hj
      ·exact hone' v (uA hj)
      ·exact hone j v hj
    ·refine PV.At.store hS hι hb (ZdA _ _ _ hls) ?_;rw[ZjC cs r vs hl]at hj;rw[ZfO _ _ _ hls]at hv;simp only[hlen]at hv;split at hj
     ·rename_i hlt;rw[if_pos hlt]at hv;exact h j p v hj hv
     ·rename_i hlt;rw[if_neg hlt]at hv;split at hj
      ·rename_i hlt2;rw[if_pos hlt2]at hv;exact q3 (j-r) p v hj (by simpa using hv)
      ·rename_i hlt2;rw[if_neg hlt2]at hv;exact h j p v hj hv
   |row sz' l b' arr T' hι' hb hsz hcl hone h=>
    rw[hι]at hι';cases hι';simp only[Zkl]at hc|-;cases hds:vs.mapM PV.asD with
    |none=>rw[hds]at hc;exact hc.elim
    |some ds=>
     rw[hds]at hc;obtain⟨rfl,hi,hl⟩:=hc;have hli:l[i]? =some l[i]:=uQ hi;simp only[hli,yK]at hl|-;obtain⟨hdl,hda⟩:=Zy6 hds;have hcs:l[i].cells.length=sz:=hcl _ (jU hi);have hroom:i*sz+sz<=arr.size:=by
      have:(i+1)*sz<=l.length*sz:=yP _ hi;rw[qH]at this;omega
     have hl':i*sz+c+vs.length<=arr.size:=by omega
     have hls:i*sz+c+(a.eval y).cells.toList.length<=arr.size:=by rw[hlen];exact hl'
     have hat:∀(j:Nat) d v,ds[j]? =some d->(a.eval y).cells[j]? =some v->D.At w (ownX ι X) d v:=λ j d v hj hv=>by
      obtain⟨p,hp,hpd⟩:=hda j d hj;exact(q3 j p v hp hv).asD hpd
     have hmk:(mkD l[i] (ZbZ l[i].cells c ds)).cells=ZbZ l[i].cells c ds:=by
      refine Zzi (by simp[ZbZ];omega) (λ d hd=>?_);by_cases hz:ds.length=0
      ·
       have h0:l[i].cells=[d]:=by
        rw[<-hd];unfold ZbZ;have:ds=[]:=qI hz;subst this;simp
       have hdi:l[i].cells[0]? =some d:=by rw[h0];rfl
       have hs1:sz=1:=by rw[<-hcs,h0];rfl
       have hlt:i*sz+0<arr.size:=by omega
       exact(h i _ 0 d _ hli hdi (uV hlt)).single (hone _ _ (uV hlt))
      ·have hlen1:(ZbZ l[i].cells c ds).length=1:=by rw[hd];rfl
       have hs1:l[i].cells.length=1:=by simp[ZbZ]at hlen1;omega
       have hc0:c=0:=by omega
       have hd1:ds.length=1:=by omega
       subst hc0;have:ds=[d]:=by
        rw[<-hd];unfold ZbZ;have:l[i].cells.drop (0+ds.length)=[]:=kS (by omega);rw[this];simp
       have hv0:(a.eval y).cells[0]? =some ((a.eval y).cells[0]'(by omega)):=uV _;exact(hat 0 d _ (by rw[this];rfl) hv0).single (q2 0 _ hv0)
     refine Zq1 (P:=P) (o:=⟨dst, .store T x y,ty,pos,af,gd⟩) hS hdn (by rw[hgo];simp) hι hb (i*sz+c) (a.eval y).cells.toList hls _ (run arr T' hb hl') ?_;refine .row sz _ b _ T' hι (setRow_heap w b arr _ T' (0,0) hb) ?_ (λ d hd=>?_) (λ j v hj=>?_) (λ i' d j e v hi' hj hv=>?_)
     ·rw[ZdA _ _ _ hls];simpa using hsz
     ·rcases jY hd with hd|rfl
      ·exact hcl d hd
      ·rw[hmk];simp[ZbZ];omega
     ·rw[ZfO _ _ _ hls]at hj;split at hj
      ·exact hone j v hj
      ·split at hj
       ·exact hone' v (uA hj)
       ·exact hone j v hj
     ·refine D.At.store hS hι hb (ZdA _ _ _ hls) ?_;rw[ZfO _ _ _ hls]at hv;rw[hlen]at hv;by_cases hii:i'=i
      ·subst hii;rw[gU hi]at hi';cases hi';rw[hmk,ZjC _ c ds hl]at hj;split at hj
       ·rw[if_pos (by omega)]at hv;exact h i' _ j e v hli hj hv
       ·rw[if_neg (by omega)]at hv;split at hj
        ·rw[if_pos (by omega)]at hv;exact hat (j-c) e v hj (by rw[<-qR];rw[show i'*sz+j-(i'*sz+c)=j-c by omega]at hv;exact hv)
        ·rw[if_neg (by omega)]at hv;exact h i' _ j e v hli hj hv
      ·rw[jH (Ne.symm hii)]at hi';have hjs:j<sz:=by
        have:=(uB.1 hj).1;rw[hcl d (uA hi')]at this;exact this
       have hout:i'*sz+j<i*sz+c\/i*sz+c+vs.length<=i'*sz+j:=by
        rcases Nat.lt_or_gt_of_ne hii with hlt|hgt
        ·left
         have:(i'+1)*sz<=i*sz:=yP _ hlt;rw[qH]at this;omega
        ·right
         have:(i+1)*sz<=i'*sz:=yP _ hgt;rw[qH]at this;omega
       rcases hout with ho|ho
       ·rw[if_pos ho]at hv;exact h i' d j e v hi' hj hv
       ·rw[if_neg (by omega),if_neg (by omega)]at hv;exact h i' d j e v hi' hj hv
 ·exact hc.elim
end hold
section hold
variable {P:Program}{B X:Nat->Prop}{w0:W0}{w:World}{n:Nat}{S:St}{a:Act}{ι:Nat->Option Nat}{dst:Option Nat}{ty:TypeId}{pos:String}{af:Array Edge}{gd:Option (Nat×Bool)}
theorem ZxD (off:Nat):∀(vs:List Value) (k:Nat) (cs:Array Value),
  ((vs.zipIdx k).foldl (λ(cs:Array Value) (cj:Value×Nat)=>cs.setIfInBounds (off+cj.2) cj.1) cs).size=cs.size/\
  ∀j,off+k+vs.length<=cs.size->((vs.zipIdx k).foldl (λ(cs:Array Value) (cj:Value×Nat)=>cs.setIfInBounds (off+cj.2) cj.1) cs)[j]? =
   if j<off+k then cs[j]? else if j<off+k+vs.length then vs[j-(off+k)]? else cs[j]? :=by
 intro vs
 induction vs with
 |nil=>intro k cs;refine⟨rfl,λ j _=>?_⟩;simp;intro h1 h2;omega
 |cons v vs ih=>
  intro k cs;obtain⟨h1,h2⟩:=ih (k+1) (cs.setIfInBounds (off+k) v);simp only[List.zipIdx_cons,jN];refine⟨by rw[h1];simp,λ j hl=>?_⟩;rw[h2 j (by simp at hl|-;omega)];simp only[uX]at hl|-;by_cases c1:j<off+k
  ·rw[if_pos (by omega),if_pos c1,Ab (by omega)]
  ·by_cases c2:j=off+k
   ·subst c2;rw[if_pos (by omega),if_neg c1,if_pos (by omega),Au (by omega)];simp
   ·rw[if_neg (by omega),if_neg c1];by_cases c3:j<off+k+(vs.length+1)
    ·rw[if_pos (by omega),if_pos c3,show j-(off+k)=(j-(off+(k+1)))+1 by omega,jO]
    ·rw[if_neg (by omega),if_neg c3,Ab (by omega)]
theorem ZqR (off:Nat)(vs cs:Array Value)(hl:off+vs.size<=cs.size):
  (vs.zipIdx.foldl (λ(cs:Array Value) (cj:Value×Nat)=>cs.setIfInBounds (off+cj.2) cj.1) cs).size=cs.size/\
  ∀j,(vs.zipIdx.foldl (λ(cs:Array Value) (cj:Value×Nat)=>cs.setIfInBounds (off+cj.2) cj.1) cs)[j]? =
   if j<off then cs[j]? else if j<off+vs.size then vs[j-off]? else cs[j]? :=by
 have:=ZxD off vs.toList 0 cs;rw[<-Array.foldl_toList,Array.toList_zipIdx];refine⟨this.1,λ j=>?_⟩;rw[this.2 j (by simpa using hl)];simp
def Zl6 (w:World)(ι:Nat->Option Nat)(X:Nat->Prop)(cs:List PV)(arr:Array Value):Prop:=
 arr.size=cs.length/\(∀(j:Nat) (v:Value),arr[j]? =some v->v.oneCell'=true)/\∀(j:Nat) p v,cs[j]? =some p->arr[j]? =some v->PV.At w ι X p v
theorem Zxk (pl:Nat->Option (Nat×Nat)):∀(ps:List (Nat×PV)) (vs:List (Nat×Value)) (cs cs':List PV) (arr:Array Value),
  ps.length=vs.length->(∀(k:Nat) p v,ps[k]? =some p->vs[k]? =some v->p.1=v.1/\PV.At w ι X p.2 v.2)->Zl6 w ι X cs arr->ZiD pl cs ps=some cs'->
  ∃arr',Instr.fill pl arr vs=some arr'/\Zl6 w ι X cs' arr':=by
 intro ps
 induction ps with
 |nil=>
  intro vs cs cs' arr hl _ hc hf;cases vs with
  |nil=>cases hf;exact⟨arr,rfl,hc⟩
  |cons _ _=>cases hl
 |cons p ps ih=>
  intro vs cs cs' arr hl hr hc hf;cases vs with
  |nil=>cases hl
  |cons v vs=>
   obtain⟨i,x⟩:=p;obtain⟨i',y⟩:=v;obtain⟨hi,hxy⟩:=hr 0 _ _ rfl rfl;simp only at hi hxy;subst hi;simp only[ZiD]at hf;simp only[Instr.fill];cases hp:pl i with
   |none=>rw[hp]at hf;cases hf
   |some q=>
    obtain⟨off,sz⟩:=q;rw[hp]at hf;cases hxc:x.cells? with
    |none=>rw[hxc]at hf;cases hf
    |some xs=>
     rw[hxc]at hf;simp only at hf|-;split at hf
     ·rename_i hcond;obtain⟨h1,h2,h3⟩:=hxy.cells hxc;have hle:off+y.cells.size<=arr.size:=by rw[h1,hc.1];omega
      rw[if_neg (by simp only[qZ,uF,not_or];omega)];obtain⟨f1,f2⟩:=ZqR off y.cells arr hle;refine ih vs _ cs' _ (by simpa using hl) (λ k p v hk hv=>hr (k+1) p v (by simpa using hk) (by simpa using hv)) ⟨?_,?_,?_⟩ hf
      ·rw[f1,hc.1];simp[ZbZ];omega
      ·intro j u hu;rw[f2]at hu;split at hu
       ·exact hc.2.1 j u hu
       ·split at hu
        ·exact h2 _ u hu
        ·exact hc.2.1 j u hu
      ·intro j q u hq hu;rw[f2]at hu;rw[ZjC cs off xs (by omega)]at hq;split at hq
       ·rename_i c1;rw[if_pos c1]at hu;exact hc.2.2 j q u hq hu
       ·rename_i c1;rw[if_neg c1]at hu;split at hq
        ·rename_i c2;rw[if_pos (by omega)]at hu;exact h3 _ q u hq hu
        ·rename_i c2;rw[if_neg (by omega)]at hu;exact hc.2.2 j q u hq hu
     ·cases hf
theorem ZCA (hS:Hold B X w0 n S a w ι){T:TypeId}{ps:Array (Nat×Operand)}(hd:∀t,dst=some t->t<n)(hx:∀p∈ps.toList,ZaD p.2=true)
  (hc:(Zhh (tyi P T) (ps.toList.map λ p=>(p.1,S.ev p.2))).1):
  ZaN P B X w0 n ⟨dst, .build T ps,ty,pos,af,gd⟩ (S.app dst (Zhh (tyi P T) (ps.toList.map λ p=>(p.1,S.ev p.2))).2) a w:=by
 unfold Zhh at hc|-;cases hf:ZiD ((tyi P T).places[·]?) ((tyi P T).zero.map ZfP) (ps.toList.map λ p=>(p.1,S.ev p.2))with
 |none=>rw[hf]at hc;exact hc.elim
 |some cs=>
  rw[hf]at hc;obtain⟨hz,hb⟩:=hc;simp only;rw[ZaR];obtain⟨i,z,hi,hiz,hzs,hz1,hne,hzz⟩:=Zo4 hz;have h0:Zl6 w ι X ((tyi P T).zero.map ZfP) z.cells:=by
   refine⟨by simp[hzz],λ j v hj=>hz1 v (by simpa using jB hj),λ j p v hj hv=>?_⟩;rw[hzz,uJ,qR,hv]at hj;cases hj;exact ZkW (hz1 v (by simpa using jB hv))
  obtain⟨arr,ha,hat⟩:=Zxk ((tyi P T).places[·]?) (ps.toList.map λ p=>(p.1,S.ev p.2)) (ps.toList.map λ p=>(p.1,a.eval p.2)) _ cs z.cells (by simp)
   (λ k p v hk hv=>by
    rw[uJ]at hk hv;cases hp:ps.toList[k]? with
    |none=>rw[hp]at hk;cases hk
    |some q=>
     rw[hp]at hk hv;cases hk;cases hv;exact⟨rfl,hS.ev (hx q (uA hp))⟩) h0 hf
  have hbuilt:P.built T ((ps.map λ(i,x)=>(i,a.eval x))).toList=some arr:=by
   simp only[tyi]at hb ha;unfold Program.built;cases hu:P.underlying T with
   |none=>rw[hu]at hb;cases hb
   |some dd=>
    rw[hu]at hb ha;cases dd<;>simp only at hb ha<;>try (cases hb;done)
    rename_i fs;simp only[hi,hiz];cases hm:fs.toList.mapM (λ f=>(P.info? f.type).map λ i=>(f.offset,i.size))with
    |none=>rw[hm]at hb;cases hb
    |some pl=>
     rw[hm]at ha;simp only[yK]at ha;simp only[Array.toList_map];rw[<-ha]
     congr 1
     funext k
     simp
  have hr:=Go.run_build (P:=P) w T (ps.map λ(i,x)=>(i,a.eval x)) arr hbuilt;exact hS.goes hd (by simp only[execOp,Sem.run_bind,hr,Result.andThen_ok,Sem.run_pure]) (.ag cs arr hat.1 hat.2.1 hat.2.2)
def Zik (w:World)(Y:Nat->Prop)(sz:Nat)(l:List D)(arr:Array Value):Prop:=
 arr.size=l.length*sz/\(∀d,d∈l->d.cells.length=sz)/\(∀(j:Nat) (v:Value),arr[j]? =some v->v.oneCell'=true)/\
 ∀(i:Nat) d (j:Nat) e v,l[i]? =some d->d.cells[j]? =some e->arr[i*sz+j]? =some v->D.At w Y e v
theorem Zw0 (sz:Nat):∀(ps:List (Nat×Option D)) (vs:List (Nat×Value)) (l l':List D) (arr:Array Value),
  ps.length=vs.length->(∀(k:Nat) p v,ps[k]? =some p->vs[k]? =some v->p.1=v.1/\∀d,p.2=some d->D.At w (ownX ι X) d v.2)->Zik w (ownX ι X) sz l arr->Zgo sz l ps=some l'->
  ∃arr',Instr.fill (λ i=>some (i*sz,sz)) arr vs=some arr'/\Zik w (ownX ι X) sz l' arr'/\l'.length=l.length:=by
 intro ps
 induction ps with
 |nil=>
  intro vs l l' arr hl _ hc hf;cases vs with
  |nil=>simp[Zgo]at hf;subst hf;exact⟨arr,rfl,hc,rfl⟩
  |cons _ _=>cases hl
 |cons p ps ih=>
  intro vs l l' arr hl hr hc hf;cases vs with
  |nil=>cases hl
  |cons v vs=>
   obtain⟨i,x⟩:=p;obtain⟨i',y⟩:=v;obtain⟨hi,hxy⟩:=hr 0 _ _ rfl rfl;simp only at hi hxy;subst hi;cases x with
   |none=>simp[Zgo]at hf
   |some d=>
    simp only[Zgo]at hf;split at hf
    ·rename_i hcond;obtain⟨hlt,hsz,hnt⟩:=hcond;obtain⟨h1,h2,h3⟩:=(hxy d rfl).cells (by rintro q rfl;simp[D.notTup]at hnt);have hroom:i*sz+sz<=arr.size:=by
      have:(i+1)*sz<=l.length*sz:=yP _ hlt;rw[qH]at this;rw[hc.1];omega
     simp only[Instr.fill];rw[if_neg (by simp only[qZ,uF,not_or];omega)];obtain⟨f1,f2⟩:=ZqR (i*sz) y.cells arr (by omega)
     suffices hra:Zik w (ownX ι X) sz (l.set i d) (y.cells.zipIdx.foldl (λ(cs:Array Value) (cj:Value×Nat)=>cs.setIfInBounds (i*sz+cj.2) cj.1) arr) by
      obtain⟨arr',e1,e2,e3⟩:=ih vs (l.set i d) l' _ (by simpa using hl) (λ k p v hk hv=>hr (k+1) p v (by simpa using hk) (by simpa using hv)) hra hf;exact⟨arr',e1,e2,by simpa using e3⟩
     refine⟨?_,?_,?_,?_⟩
     ·rw[f1,hc.1,yJ]
     ·intro e he;rcases jY he with he|rfl
      ·exact hc.2.1 e he
      ·exact hsz
     ·intro j u hu;rw[f2]at hu;split at hu
      ·exact hc.2.2.1 j u hu
      ·split at hu
       ·exact h2 _ u hu
       ·exact hc.2.2.1 j u hu
     ·intro k e j q u he hq hu;rw[f2]at hu;by_cases hk:k=i
      ·subst hk;rw[gU hlt]at he;cases he;have hjs:j<sz:=by rw[<-hsz];exact(uB.1 hq).1
       rw[if_neg (by omega),if_pos (by omega)]at hu;exact h3 j q u hq (by rw[show k*sz+j-k*sz=j by omega]at hu;exact hu)
      ·rw[jH (Ne.symm hk)]at he;have hjs:j<sz:=by rw[<-hc.2.1 e (uA he)];exact(uB.1 hq).1
       have hout:k*sz+j<i*sz\/i*sz+sz<=k*sz+j:=by
        rcases Nat.lt_or_gt_of_ne hk with hlt'|hgt
        ·left
         have:(k+1)*sz<=i*sz:=yP _ hlt';rw[qH]at this;omega
        ·right
         have:(i+1)*sz<=k*sz:=yP _ hgt;rw[qH]at this;omega
       rcases hout with ho|ho
       ·rw[if_pos ho]at hu;exact hc.2.2.2 k e j q u he hq hu
       ·rw[if_neg (by omega),if_neg (by omega)]at hu;exact hc.2.2.2 k e j q u he hq hu
    ·cases hf
theorem Zv8 {v:Value}{Y:Nat->Prop}(h:v.oneCell'=true):D.At w Y (cellD v) v:=by
 unfold cellD;split
 ·exact .slnil none 0
 ·exact .sc v h
theorem Zv9 {v:Value}:(cellD v).cells=[cellD v]:=by
 unfold cellD;split<;>rfl
theorem ZzJ (agg:Bool)(vs:List Value)(h:agg=false->vs.length=1):(D.ofCells agg (vs.map cellD)).cells=vs.map cellD:=by
 unfold D.ofCells;cases agg with
 |true=>rfl
 |false=>
  have:=h rfl
  match vs,this with
  |[v],_=>exact Zv9
theorem ZuD {z:Array Value}{sz m:Nat}{agg:Bool}(hz:z.size=sz)(h1:∀v∈z.toList,v.oneCell'=true)(h0:sz≠0)(ha:agg=false->sz=1){Y:Nat->Prop}:
  Zik w Y sz (List.replicate m (.ofCells agg (z.toList.map cellD))) ((Array.range (m*sz)).map (λ k=>z[k%z.size]!)):=by
 have hcl:(D.ofCells agg (z.toList.map cellD)).cells=z.toList.map cellD:=ZzJ agg z.toList (λ h=>by simp[hz,ha h]);refine⟨by simp,λ d hd=>?_,λ j v hj=>?_,λ i d j e v hi he hv=>?_⟩
 ·rw[Aa hd,hcl];simp[hz]
 ·rw[kY]at hj;cases hr:(Array.range (m*sz))[j]? with
  |none=>rw[hr]at hj;cases hj
  |some q=>
   rw[hr]at hj;simp only[yY,yM]at hj;subst hj;have hlt:q%z.size<z.size:=Cz _ (by omega);rw[getElem!_pos z _ hlt];exact h1 _ (by simp)
 ·have hil:=(uB.1 hi).1;simp only[qX]at hil;rw[qT]at hi;split at hi
  ·cases hi;rw[hcl,uJ]at he;cases hq:z.toList[j]? with
   |none=>rw[hq]at he;cases he
   |some q=>
    rw[hq]at he;cases he;have hjl:=(uB.1 hq).1;simp only[Bk]at hjl;have hlt:i*sz+j<m*sz:=by
     have:(i+1)*sz<=m*sz:=yP _ hil;rw[qH]at this;omega
    rw[kY,Array.getElem?_range]at hv;simp only[hlt,if_true,yY,yM]at hv;have hmod:(i*sz+j)%z.size=j:=by rw[hz,Cj,Nat.mul_add_mod];exact Cv (by omega)
    rw[hmod,getElem!_pos z j hjl]at hv;rw[qR,uV hjl]at hq;cases hq;subst hv;exact Zv8 (h1 _ (by simp))
  ·rename_i hn;exact absurd hil hn
end hold
section hold
variable {P:Program}{B X:Nat->Prop}{w0:W0}{w:World}{n:Nat}{S:St}{a:Act}{ι:Nat->Option Nat}{dst:Option Nat}{ty:TypeId}{pos:String}{af:Array Edge}{gd:Option (Nat×Bool)}
theorem Hold.ext (h:Hold B X w0 n S a w ι){w':World}(hb:RowKit.Below w.heap.size w w'):Hold B X w0 n S a w' ι:=by
 have h1:∀o b,ι o=some b->ι o=some b/\bsz w' b=bsz w b:=λ o b hob=>⟨hob,by simp only[bsz,hb.block b (h.free o b hob).2]⟩
 have h2:∀b,ownX ι X b->ownX ι X b\/w.heap.size<=b:=λ b hb=> .inl hb
 have h3:∀b,b<w.heap.size->¬ownX ι X b->w'.heap[b]? =w.heap[b]? :=λ b hlt _=>hb.block b hlt
 refine⟨h.size,h.defers,⟨hb.os.trans h.frame.os,hb.tape.trans h.frame.tape,hb.output.trans h.frame.output,gQ h.frame.size hb.size,λ b hB=>?_⟩,h.hB,h.hXB,h.inj,
  λ o b hob=>⟨(h.free o b hob).1,gJ (h.free o b hob).2 hb.size⟩,λ t=>(h.env t).move h1 h2 h3,λ o=>?_,λ o b hb0=>?_⟩
 ·rw[<-h.frame.keep b hB];exact hb.block b (gJ (h.hB b hB) h.frame.size)
 ·exact(h.objs o).move rfl (λ _ b hob=>hb.block b (h.free o b hob).2) h1 h2 h3
 ·obtain⟨g1,g2,g3⟩:=h.stay o b hb0;exact⟨g1,g2,(h1 o b g2).2.trans g3⟩
theorem Hold.ownlt (h:Hold B X w0 n S a w ι){b:Nat}(hb:ownX ι X b):b<w.heap.size:=by
 rcases hb with hb|⟨o,hb⟩
 ·exact gJ (h.hX b hb) h.frame.size
 ·exact(h.free o b hb).2
theorem ZoK {objs:Nat->Ob}:∀(k:Nat) (p:PV) (v:Value) (d:D),toD objs k p=some d->p.refs objs k=[]->PV.At w ι X p v->D.At w (ownX ι X) d v:=by
 intro k
 induction k with
 |zero=>intro p v d h;simp[toD]at h
 |succ k ih=>
  intro p v d h hr hp;have list:∀(cs:List PV) (ds:List D) (arr:Array Value),cs.mapM (toD objs k)=some ds->cs.flatMap (PV.refs objs k)=[]->
    (∀(j:Nat) p v,cs[j]? =some p->arr[j]? =some v->PV.At w ι X p v)->ds.length=cs.length/\∀(j:Nat) d v,ds[j]? =some d->arr[j]? =some v->D.At w (ownX ι X) d v:=by
   intro cs
   induction cs with
   |nil=>intro ds arr hm _ _;simp at hm;subst hm;simp
   |cons c cs ihc=>
    intro ds arr hm hf hat;simp only[kB]at hm;cases hc:toD objs k c with
    |none=>rw[hc]at hm;cases hm
    |some e=>
     rw[hc]at hm;cases hm2:cs.mapM (toD objs k)with
     |none=>rw[hm2]at hm;cases hm
     |some es=>
      rw[hm2]at hm;cases hm;simp only[gO,List.append_eq_nil_iff]at hf;obtain⟨g1,g2⟩:=ihc es (arr.extract 1 arr.size) hm2 hf.2 (λ j p v hj hv=>by
       rw[Array.getElem?_extract]at hv;split at hv
       ·exact hat (j+1) p v (by simpa using hj) (by rw[Nat.add_comm];exact hv)
       ·cases hv)
      refine⟨by simp[g1],λ j d v hj hv=>?_⟩;cases j with
      |zero=>simp at hj;subst hj;exact ih c v e hc hf.1 (hat 0 c v rfl hv)
      |succ j=>
       refine g2 j d v (by simpa using hj) ?_;have hlt:=(gC.1 hv).1;rw[Array.getElem?_extract];rw[if_pos (by simp;omega),Nat.add_comm];exact hv
  cases p with
  |d x=>simp[toD]at h;subst h;cases hp;assumption
  |nilS=>simp[toD]at h;subst h;cases hp;exact .slnil none 0
  |z0=>simp[toD]at h;subst h;cases hp;exact .slnil _ 0
  |unk=>simp[toD]at h
  |und=>simp[toD]at h
  |ab=>simp[toD]at h
  |mp _=>simp[toD]at h
  |ifp _ _=>simp[toD]at h
  |ref o sz off len cap=>
   exfalso;simp only[PV.refs]at hr;split at hr<;>simp at hr
  |ptr o sz i c=>
   exfalso;simp only[PV.refs]at hr;split at hr<;>simp at hr
  |ag cs=>
   simp only[toD]at h;cases hm:cs.mapM (toD objs k)with
   |none=>rw[hm]at h;cases h
   |some ds=>
    rw[hm]at h;cases h;cases hp with
    |ag _ arr hsz hone hat=>
     obtain⟨g1,g2⟩:=list cs ds arr hm (by simpa[PV.refs]using hr) hat;exact .ag ds arr (by omega) hone g2
  |tup cs=>
   simp only[toD]at h;cases hm:cs.mapM (toD objs k)with
   |none=>rw[hm]at h;cases h
   |some ds=>
    rw[hm]at h;cases h;cases hp with
    |tup _ arr hsz hat=>
     obtain⟨g1,g2⟩:=list cs ds arr hm (by simpa[PV.refs]using hr) hat;exact .tup ds arr (by omega) g2
  |fn f cs=>
   simp only[toD]at h;cases hm:cs.mapM (toD objs k)with
   |none=>rw[hm]at h;cases h
   |some ds=>
    rw[hm]at h;cases h;cases hp with
    |fn _ _ arr hsz hat=>
     obtain⟨g1,g2⟩:=list cs ds arr hm (by simpa[PV.refs]using hr) hat;exact .fn f ds arr (by omega) g2
theorem Zjb {t:TypeId}(h:(tyi P t).zok=true):∃i z,P.info? t=some i/\i.zero=some z/\z.cells.size=(tyi P t).size/\i.size=(tyi P t).size/\i.bytes=(tyi P t).bytes/\(∀v∈z.cells.toList,v.oneCell'=true)/\(tyi P t).size≠0/\(tyi P t).zero=z.cells.toList/\((tyi P t).agg=false->(tyi P t).size=1\/True):=by
 obtain⟨i,z,hi,hiz,hzs,hz1,hne,hzz⟩:=Zo4 h;exact⟨i,z,hi,hiz,hzs,by simp[tyi,Program.cellsOf,hi],by simp[tyi,Program.bytesOf,hi],hz1,hne,hzz,λ _=> .inr trivial⟩
theorem ZCC (hS:Hold B X w0 n S a w ι){T:TypeId}{m:Nat}{ow:Bool}{ps:Array (Nat×Operand)}(hd:∀t,dst=some t->t<n)(hx:∀p∈ps.toList,ZaD p.2=true)
  (hc:(Zgb S.objs dst ow (tyi P T) (tyi P (tyi P T).elem) m (ps.toList.map λ p=>(p.1,S.ev p.2))).1):
  ZaN P B X w0 n ⟨dst, .buildSlice T m ps,ty,pos,af,gd⟩ (S.app dst (Zgb S.objs dst ow (tyi P T) (tyi P (tyi P T).elem) m (ps.toList.map λ p=>(p.1,S.ev p.2))).2) a w:=by
 unfold Zgb at hc|-;generalize hls:Zgo (tyi P (tyi P T).elem).size (List.replicate m (.ofCells (tyi P (tyi P T).elem).agg ((tyi P (tyi P T).elem).zero.map cellD))) ((ps.toList.map λ p=>(p.1,S.ev p.2)).map λ p=>(p.1,toD S.objs 4 p.2))=res at hc|-;cases res with
 |none=>exact hc.elim
 |some l=>
  simp only at hc|-;have hmain:(tyi P T).kind=1/\(tyi P (tyi P T).elem).zok=true/\m*(tyi P (tyi P T).elem).size<=16777216/\((ps.toList.map λ p=>(p.1,S.ev p.2)).map (·.2)).flatMap (PV.refs S.objs 4)=[]:=by
   cases ow with
   |true=>
    cases dst with
    |none=>exact hc.elim
    |some t=>exact⟨hc.1,hc.2.1,hc.2.2.1,hc.2.2.2.1⟩
   |false=>exact hc
  obtain⟨hk,hz,hm,hrefs⟩:=hmain;have hu:=ZdM hk;obtain⟨ie,z,hie,hiz,hzs,hisz,_,hz1,hne,hzz,_⟩:=Zjb hz;have hagg:=ZuE hz;generalize he:(tyi P (tyi P T).elem)=ety at*;have h0:Zik w (ownX ι X) ety.size (List.replicate m (.ofCells ety.agg (ety.zero.map cellD))) ((Array.range (m*ety.size)).map (λ k=>z.cells[k%z.cells.size]!)):=by
   rw[hzz];exact ZuD hzs hz1 hne hagg
  obtain⟨arr,ha,hat,hll⟩:=Zw0 (w:=w) (ι:=ι) (X:=X) ety.size _ (ps.toList.map λ p=>(p.1,a.eval p.2)) _ l _ (by simp)
   (λ k p v hk hv=>by
    rw[uJ]at hv;rw[gR,uJ]at hk;cases hp:ps.toList[k]? with
    |none=>rw[hp]at hk;cases hk
    |some q=>
     rw[hp]at hk hv;cases hk;cases hv;refine⟨rfl,λ d hdd=>?_⟩;have hmem:q∈ps.toList:=uA hp;refine ZoK 4 (S.ev q.2) _ d hdd ?_ (hS.ev (hx q hmem));rw[Br]at hrefs;exact hrefs _ (by simp only[gR,uP,Function.comp];exact⟨q,hmem,rfl⟩)) h0 hls
  simp only[qX]at hll;have hpos:m*ie.size=0->False\/True:=λ _=> .inr trivial
  have hr:(Instr.buildSlice T m (ps.map λ(i,x)=>(i,a.eval x))).run P w= .ok (.slice (some ⟨w.heap.size,0,none⟩) m m) (w.alloc (.cells arr (tyi P T).elem)):=by
   by_cases hm0:m=0
   ·subst hm0;simp only[jL]at ha;simp only[Instr.buildSlice,Sem.run_bind,run_underlying hu,Result.andThen_ok,sizeOf,typeInfo,hie,run_program,Sem.run_pure,jL];have e0:∀f:Nat->Value,(Array.range 0).map f=#[]:=λ f=>Array.eq_empty_of_size_eq_zero (by simp)
    rw[e0]at ha;simp[hisz,newRow];rw[e0];have ha':Instr.fill (λ i=>some (i*ety.size,ety.size)) #[] (ps.toList.map λ(x:Nat×Operand)=>(x.1,a.eval x.2))=some arr:=ha;rw[ha'];simp
   ·have hz0:m*ie.size≠0:=by rw[hisz];exact Nat.mul_ne_zero hm0 hne
    simp only[Instr.buildSlice,Sem.run_bind,run_underlying hu,Result.andThen_ok,sizeOf,typeInfo,hie,run_program,Sem.run_pure,Sem.run_ite];rw[hisz]at hz0|-;simp only[show¬(m*ety.size>2^24) by omega,jE,Sem.run_pure,Result.andThen_ok,hz0,Sem.run_bind,zeroValue,typeInfo,hie,hiz,run_program];simp only[Array.toList_map];have ha':Instr.fill (λ i=>some (i*ety.size,ety.size)) ((Array.range (m*ety.size)).map (λ k=>z.cells[k%z.cells.size]!)) (ps.toList.map λ(i,x)=>(i,a.eval x))=some arr:=ha;rw[ha'];simp[newRow]
  have hrun:(execOp a.eval ⟨dst, .buildSlice T m ps,ty,pos,af,gd⟩).run P w= .ok (.value (.slice (some ⟨w.heap.size,0,none⟩) m m)) (w.alloc (.cells arr (tyi P T).elem)):=by
   simp only[execOp,Sem.run_bind,hr,Result.andThen_ok,Sem.run_pure]
  have hold:∀b,b<w.heap.size->(w.alloc (.cells arr (tyi P T).elem)).heap[b]? =w.heap[b]? :=λ b hb=>heap_alloc_old w _ hb
  have hmax:m<=maxLen:=by
   have:m*1<=m*ety.size:=Nat.mul_le_mul_left _ (by omega);simp only[maxLen];omega
  cases ow with
  |false=>
   simp only[qD,jE];rw[ZaR];have hS':=hS.ext (w':=w.alloc (.cells arr (tyi P T).elem)) ⟨rfl,rfl,rfl,by simp,hold⟩;refine⟨_,_,ι, .inl hrun,hS'.put hd (.d _ _ ?_)⟩;have:=D.At.sl (w:=w.alloc (.cells arr (tyi P T).elem)) (X:=ownX ι X) l w.heap.size 0 m ety.size (by omega) hmax hat.2.1 (λ i j=>arr.getD (i*ety.size+j) undef) (λ i d j c hi hj=>?_) (λ i d j c hi hj=>?_)
   ·rw[hll]at this;exact this
   ·have hil:=(uB.1 hi).1;have hjl:j<ety.size:=by rw[<-hat.2.1 d (uA hi)];exact(uB.1 hj).1
    have hlt:i*ety.size+j<arr.size:=by
     have:(i+1)*ety.size<=l.length*ety.size:=yP _ hil;rw[qH]at this;rw[hat.1];omega
    have hg:arr[i*ety.size+j]? =some arr[i*ety.size+j]:=uV hlt;have hgd:arr.getD (i*ety.size+j) undef=arr[i*ety.size+j]:=by simp[Array.getD,hlt]
    simp only[hgd];refine⟨?_,hat.2.2.1 _ _ hg,λ ho=>?_⟩
    ·rw[qM,Zdf (heap_alloc_new w _),hg]
    ·have:=hS.ownlt ho;omega
   ·have hil:=(uB.1 hi).1;have hjl:j<ety.size:=by rw[<-hat.2.1 d (uA hi)];exact(uB.1 hj).1
    have hlt:i*ety.size+j<arr.size:=by
     have:(i+1)*ety.size<=l.length*ety.size:=yP _ hil;rw[qH]at this;rw[hat.1];omega
    have hg:arr[i*ety.size+j]? =some arr[i*ety.size+j]:=uV hlt;have hgd:arr.getD (i*ety.size+j) undef=arr[i*ety.size+j]:=by simp[Array.getD,hlt]
    simp only[hgd];exact(hat.2.2.2 i d j c _ hi hj hg).mono (λ b hb=> .inl hb) (λ b hb _=>hold b hb)
  |true=>
   cases dst with
   |none=>exact hc.elim
   |some t=>
    have hdead:S.objs t= .dead:=hc.2.2.2.2;simp only[if_true];have hob:Ob.At (w.alloc (.cells arr (tyi P T).elem)) (upd t (some w.heap.size) ι) X t (.row ety.size l):=
     .row ety.size l w.heap.size arr (tyi P T).elem (if_pos rfl) (heap_alloc_new w _) (by rw[hat.1];exact uI _) hat.2.1 hat.2.2.1
      λ i d j e v hi hj hv=>(hat.2.2.2 i d j e v hi hj hv).alloc hS hdead hold
    have h1:=hS.alloc hdead (w.alloc (.cells arr (tyi P T).elem)) rfl rfl rfl (by simp) hold _ hob;refine⟨_,_,upd t (some w.heap.size) ι, .inl hrun,?_⟩;have h2:=h1.put (dst:=some t) (x:= .ref t ety.size 0 m m) (v:= .slice (some ⟨w.heap.size,0*ety.size,none⟩) m m) hd
     (.ref t ety.size 0 m m m w.heap.size (if_pos rfl) (uI _) (uI _) hmax (by simp only[bsz,heap_alloc_new w,hat.1,hll,qM]))
    rw[jL]at h2;exact h2
end hold
end Go.PS
