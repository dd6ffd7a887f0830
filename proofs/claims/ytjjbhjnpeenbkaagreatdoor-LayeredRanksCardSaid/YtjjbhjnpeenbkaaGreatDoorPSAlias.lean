/- Short names of library theorems that are used often. -/
import Derived.WalkKit
set_option linter.unusedSimpArgs false
set_option linter.unusedVariables false
set_option maxHeartbeats 16000000
namespace Go
abbrev uA.{u}:= @List.mem_of_getElem?.{u}
abbrev uB.{u}:= @List.getElem?_eq_some_iff.{u}
abbrev uC := @Nat.lt_or_ge
abbrev uD.{u,v}:= @List.length_map.{u,v}
abbrev uE.{u}:= @List.take_of_length_le.{u}
abbrev uF := @decide_eq_true_eq
abbrev uG := @Nat.zero_le
abbrev uH.{u}:= @List.length_append.{u}
abbrev uI := @Nat.le_refl
abbrev uJ.{u,v}:= @List.getElem?_map.{u,v}
abbrev uK := @Int.toNat_natCast
abbrev uL.{u}:= @List.getElem?_eq_none.{u}
abbrev uM := @Bool.and_eq_true
abbrev uN.{u}:= @List.mem_cons_of_mem.{u}
abbrev uO.{u}:= @List.forall_mem_cons.{u}
abbrev uP.{u,v}:= @List.mem_map.{u,v}
abbrev uQ.{u}:= @List.getElem?_eq_getElem.{u}
abbrev uR.{u,v}:= @List.map_append.{u,v}
abbrev uS.{u,v}:= @List.map_cons.{u,v}
abbrev uT.{u}:= @List.mem_singleton.{u}
abbrev uU := @decide_eq_false
abbrev uV.{u}:= @Array.getElem?_eq_getElem.{u}
abbrev uW.{u}:= @List.length_nil.{u}
abbrev uX.{u}:= @List.length_cons.{u}
abbrev uY := @Nat.le_of_ble_eq_true
abbrev uZ.{u}:= @List.all_eq_true.{u}
abbrev yA := @List.mem_range
abbrev yB := @decide_eq_true
abbrev yC.{u}:= @List.forall_mem_nil.{u}
abbrev yD.{u}:= @List.mem_cons.{u}
abbrev yE.{u,v}:= @List.map_nil.{u,v}
abbrev yF.{u}:= @List.length_take.{u}
abbrev yH.{u}:= @List.take_length.{u}
abbrev yI := @Bool.not_eq_true'
abbrev yJ.{u}:= @List.length_set.{u}
abbrev yK.{u}:= @Option.getD_some.{u}
abbrev yL.{u}:= @List.length_singleton.{u}
abbrev yM.{u}:= @Option.some.injEq.{u}
abbrev yN.{u,v}:= @List.map_congr_left.{u,v}
abbrev yO.{u}:= @List.mem_append.{u}
abbrev yP := @Nat.mul_le_mul_right
abbrev yQ.{u}:= @List.contains_eq_mem.{u}
abbrev yR.{u,v}:= @List.map_set.{u,v}
abbrev yS.{u}:= @List.ext_getElem?.{u}
abbrev yT.{u}:= @List.append_nil.{u}
abbrev yU.{u}:= @List.take_zero.{u}
abbrev yV.{u}:= @List.nodup_cons.{u}
abbrev yW.{u}:= @List.getElem?_of_mem.{u}
abbrev yX.{u}:= @List.getElem?_set.{u}
abbrev yY.{u,v}:= @Option.map_some.{u,v}
abbrev yZ := @decide_eq_false_iff_not
abbrev qA.{u}:= @List.any_eq_false.{u}
abbrev qB := @Nat.lt_succ_iff_lt_or_eq
abbrev qC := @List.getElem?_range
abbrev qD := @Bool.false_eq_true
abbrev qE.{u}:= @List.append_eq.{u}
abbrev qF.{u}:= @List.getElem?_take.{u}
abbrev qG.{u}:= @List.getElem?_append_right.{u}
abbrev qH := @Nat.add_mul
abbrev qI.{u}:= @List.eq_nil_of_length_eq_zero.{u}
abbrev qJ.{u}:= @List.append_assoc.{u}
abbrev qK.{u}:= @Array.getD_eq_getD_getElem?.{u}
abbrev qL := @Int.le_refl
abbrev qM := @Nat.zero_add
abbrev qN.{u}:= @List.drop_zero.{u}
abbrev qO.{u}:= @List.mem_reverse.{u}
abbrev qP := @List.range_succ
abbrev qQ := @Int.natCast_add
abbrev qR.{u}:= @Array.getElem?_toList.{u}
abbrev qS.{u}:= @List.drop_eq_getElem_cons.{u}
abbrev qT.{u}:= @List.getElem?_replicate.{u}
abbrev qU := @Nat.eq_zero_or_pos
abbrev qV := @Bool.eq_iff_iff
abbrev qW.{u}:= @List.getElem?_append_left.{u}
abbrev qX.{u}:= @List.length_replicate.{u}
abbrev qY := @Classical.byContradiction
abbrev qZ := @Bool.or_eq_true
abbrev gA.{u}:= @List.getElem?_drop.{u}
abbrev gB.{u,v}:= @congrArg.{u,v}
abbrev gC.{u}:= @Array.getElem?_eq_some_iff.{u}
abbrev gE.{u}:= @List.filter_append.{u}
abbrev gH.{u}:= @List.pairwise_append.{u}
abbrev gI.{u}:= @List.take_append_drop.{u}
abbrev gJ := @Nat.lt_of_lt_of_le
abbrev gK.{u}:= @List.any_eq_true.{u}
abbrev gL.{u}:= @List.nil_append.{u}
abbrev gM.{u}:= @List.pairwise_iff_getElem.{u}
abbrev gN.{u}:= @List.mem_iff_getElem?.{u}
abbrev gO.{u,v}:= @List.flatMap_cons.{u,v}
abbrev gP.{u}:= @List.not_mem_nil.{u}
abbrev gQ := @Nat.le_trans
abbrev gR.{u,v,w}:= @List.map_map.{u,v,w}
abbrev gS.{u}:= @Array.getElem?_append.{u}
abbrev gT.{u}:= @List.length_filter_le.{u}
abbrev gU.{u}:= @List.getElem?_set_self.{u}
abbrev gV.{u}:= @List.idxOf_lt_length_of_mem.{u}
abbrev gW.{u}:= @List.mem_of_mem_take.{u}
abbrev gX.{u}:= @List.cons_append.{u}
abbrev gY := @Int.natCast_one
abbrev gZ.{u}:= @List.getD_eq_getElem?_getD.{u}
abbrev jA := @Nat.add_zero
abbrev jB.{u}:= @Array.mem_of_getElem?.{u}
abbrev jC := @Decidable.em
abbrev jD := @Int.mul_le_mul_of_nonneg_left
abbrev jE.{u}:= @if_false.{u}
abbrev jF := @Nat.sub_self
abbrev jG.{u}:= @List.getElem?_append.{u}
abbrev jH.{u}:= @List.getElem?_set_ne.{u}
abbrev jI.{u}:= @List.getElem?_take_of_lt.{u}
abbrev jJ.{u,v}:= @List.map_replicate.{u,v}
abbrev jK.{u}:= @List.pairwise_flatten.{u}
abbrev jL := @Nat.zero_mul
abbrev jM := @Nat.min_eq_left
abbrev jN.{u,v}:= @List.foldl_cons.{u,v}
abbrev jO.{u}:= @List.getElem?_cons_succ.{u}
abbrev jP.{u}:= @List.length_eq_zero_iff.{u}
abbrev jQ.{u}:= @List.sum_cons.{u}
abbrev jR.{u}:= @List.findIdx?_cons.{u}
abbrev jS.{u}:= @Array.all_eq_true_iff_forall_mem.{u}
abbrev jT := @List.range_zero
abbrev jU.{u}:= @List.getElem_mem.{u}
abbrev jV.{u}:= @List.filter_cons.{u}
abbrev jW := @Int.add_zero
abbrev jX := @Int.mul_le_mul_of_nonneg_right
abbrev jY.{u}:= @List.mem_or_eq_of_mem_set.{u}
abbrev jZ.{u,v}:= @List.mem_map_of_mem.{u,v}
abbrev kA := @Nat.mul_one
abbrev kB.{u,v,w}:= @List.mapM_cons.{u,v,w}
abbrev kC := @Bool.true_and
abbrev kD.{u}:= @List.length_erase_of_mem.{u}
abbrev kH.{u}:= @List.filter_nil.{u}
abbrev kI.{u}:= @Option.isSome_some.{u}
abbrev kJ.{u}:= @List.set_cons_zero.{u}
abbrev kK := @Bool.false_ne_true
abbrev kL := @List.nodup_range
abbrev kQ.{u}:= @List.findIdx?_eq_some_iff_getElem.{u}
abbrev kS.{u}:= @List.drop_eq_nil_of_le.{u}
abbrev kT.{u}:= @List.size_toArray.{u}
abbrev kU := @List.pairwise_lt_range
abbrev kV.{u}:= @List.nodup_append.{u}
abbrev kW.{u}:= @List.getElem?_toArray.{u}
abbrev kX.{u}:= @List.eq_replicate_iff.{u}
abbrev kY.{u,v}:= @Array.getElem?_map.{u,v}
abbrev kZ.{u,v}:= @List.mem_flatMap.{u,v}
abbrev zA.{u}:= @List.pairwise_cons.{u}
abbrev zB := @Int.add_assoc
abbrev zC := @Int.le_trans
abbrev zD.{u}:= @List.mem_of_mem_drop.{u}
abbrev zE := @Nat.mul_le_mul
abbrev zF.{u}:= @List.nodup_nil.{u}
abbrev zG.{u}:= @List.reverse_reverse.{u}
abbrev zH := @Int.mul_add
abbrev zI := @Nat.pow_le_pow_right
abbrev zJ.{u}:= @List.pairwise_singleton.{u}
abbrev zK.{u}:= @Array.getElem?_setIfInBounds.{u}
abbrev zL.{u}:= @List.replicate_succ.{u}
abbrev zM.{u}:= @List.append_toArray.{u}
abbrev zN := @Nat.sub_zero
abbrev zO.{u}:= @List.length_pos_of_mem.{u}
abbrev zP := @Nat.testBit_lt_two_pow
abbrev zQ := @Nat.add_assoc
abbrev zR.{u}:= @beq_iff_eq.{u}
abbrev zS.{u}:= @Array.getElem?_append_left.{u}
abbrev zT.{u}:= @List.getElem_idxOf.{u}
abbrev zU := @Nat.add_sub_cancel
abbrev zV := @Int.tdiv_eq_ediv_of_nonneg
abbrev zW := @List.length_range
abbrev zX.{u}:= @List.mem_erase_of_ne.{u}
abbrev zY.{u}:= @Array.replicate_succ.{u}
abbrev zZ.{u}:= @Array.replicate_zero.{u}
abbrev Aa.{u}:= @List.eq_of_mem_replicate.{u}
abbrev Ab.{u}:= @Array.getElem?_setIfInBounds_ne.{u}
abbrev Ac.{u}:= @List.drop_succ_cons.{u}
abbrev Ad.{u}:= @List.flatten_append.{u}
abbrev Ae.{u}:= @List.length_pos_iff.{u}
abbrev Af.{u}:= @List.length_drop.{u}
abbrev Ag.{u}:= @List.isEmpty_iff.{u}
abbrev Ah.{u}:= @List.mem_flatten.{u}
abbrev Ai := @Bool.toNat_false
abbrev Aj.{u}:= @List.set_cons_succ.{u}
abbrev Ak := @Bool.not_eq_false'
abbrev Am.{u}:= @List.mem_filter.{u}
abbrev An := @Nat.not_lt_zero
abbrev Ao.{u,v}:= @List.map_take.{u,v}
abbrev Ap := @Nat.lt_trichotomy
abbrev Aq := @of_decide_eq_true
abbrev Ar.{u}:= @List.push_toArray.{u}
abbrev As.{u}:= @List.flatten_cons.{u}
abbrev Au.{u}:= @Array.getElem?_setIfInBounds_self_of_lt.{u}
abbrev Av := @Bool.false_and
abbrev Aw := @Bool.and_false
abbrev Ax.{u}:= @List.Pairwise.filter.{u}
abbrev Ay.{u}:= @List.perm_ext_iff_of_nodup.{u}
abbrev Az := @Nat.eq_of_testBit_eq
abbrev Ba := @Nat.pow_lt_pow_right
abbrev Bb.{u,v}:= @List.flatMap_nil.{u,v}
abbrev Bc := @decide_false
abbrev Be.{u}:= @List.perm_middle.{u}
abbrev Bg := @Int.lt_or_le
abbrev Bh := @Decidable.byContradiction
abbrev Bi.{u}:= @List.findIdx?_eq_none_iff.{u}
abbrev Bj.{u}:= @List.take_succ_cons.{u}
abbrev Bk.{u}:= @Array.length_toList.{u}
abbrev Bl.{u,v}:= @Prod.mk.injEq.{u,v}
abbrev Bm.{u}:= @List.Perm.eq_of_pairwise.{u}
abbrev Bo := @Int.mul_assoc
abbrev Bp.{u,v}:= @Option.map_none.{u,v}
abbrev Bq.{u}:= @List.getElem?_cons_zero.{u}
abbrev Br.{u,v}:= @List.flatMap_eq_nil_iff.{u,v}
abbrev Bt := @Nat.add_sub_cancel_left
abbrev Bu := @Bool.not_false
abbrev Bv := @Classical.not_not
abbrev Bw := @Bool.eq_false_iff
abbrev By := @Int.mul_zero
abbrev Bz.{u}:= @List.mem_append_right.{u}
abbrev Ca := @Nat.zero_testBit
abbrev Cb := @Bool.false_or
abbrev Cc := @or_false
abbrev Cd.{u}:= @List.mem_append_left.{u}
abbrev Ce.{u}:= @List.idxOf_cons_self.{u}
abbrev Cf.{u}:= @List.sum_append.{u}
abbrev Cg.{u}:= @List.set_append.{u}
abbrev Ch.{u}:= @List.replicate_zero.{u}
abbrev Ci.{u}:= @List.filter_eq_self.{u}
abbrev Cj := @Nat.mul_comm
abbrev Ck := @Nat.testBit_two_pow_sub_one
abbrev Cm := @and_self
abbrev Cn.{u}:= @bne_iff_ne.{u}
abbrev Co.{u}:= @Array.empty_append.{u}
abbrev Cp.{u,v}:= @List.foldl_nil.{u,v}
abbrev Cq := @Int.add_sub_cancel
abbrev Cr.{u}:= @Option.isSome_none.{u}
abbrev Cs := @Int.sub_eq_add_neg
abbrev Ct := @decide_true
abbrev Cu := @Bool.not_true
abbrev Cv := @Nat.mod_eq_of_lt
abbrev Cw := @decide_eq_decide
abbrev Cx := @Bool.not_eq_true
abbrev Cz := @Nat.mod_lt
abbrev Da := @Int.mul_comm
abbrev Db := @Bool.or_true
abbrev Dc := @Bool.true_or
abbrev De := @Nat.ne_of_lt
abbrev Df := @Int.le_of_lt
abbrev Dg := @Int.mul_nonneg
abbrev Dh := @Nat.lt_add_one
abbrev Di := @and_true
end Go
namespace Go.PS
open Go
inductive D where
 |sc (v:Value)
 |ag (cs:List D)
 |sl (l:List D)
 |tup (vs:List D)
 |pt (cs:List D)
 |fn (f:FuncId) (caps:List D)
def D.cells :D->List D
 | .ag cs=>cs
 | .sc v=>[.sc v]
 | .sl l=>[.sl l]
 | .tup vs=>[.tup vs]
 | .pt cs=>[.pt cs]
 | .fn f caps=>[.fn f caps]
abbrev D.int (n:Int):D:= .sc (.int .i64 n)
abbrev D.bool (b:Bool):D:= .sc (.bool b)
inductive PV where
 |d (x:D)
 |ref (o sz off len cap:Nat)
 |ptr (o sz i c:Nat)
 |nilS
 |z0
 |ag (cs:List PV)
 |tup (vs:List PV)
 |fn (f:FuncId) (caps:List PV)
 |unk
 |und
 |ab
 |mp (o:Nat)
 |ifp (T o:Nat)
abbrev PV.int (n:Int):PV:= .d (.sc (.int .i64 n))
abbrev PV.bool (b:Bool):PV:= .d (.sc (.bool b))
inductive Ob where
 |dead
 |gone
 |cells (cs:List PV)
 |row (sz:Nat) (l:List D)
 |imap (l:List (Int×Int))
 |iter (m k:Nat) (sn:List Nat)
structure St where
 env:Nat->PV
 objs:Nat->Ob
def upd {α:Type}(i:Nat)(x:α)(f:Nat->α):Nat->α:=λ j=>if j=i then x else f j
def ZfP :Value->PV
 | .slice none 0 0=> .nilS
 |v=> .d (.sc v)
def ZwB :Value->PV
 | .agg cs=> .ag (cs.toList.map ZfP)
 |v=>ZfP v
def St.ev (S:St):Operand->PV
 | .tmp t=>S.env t
 | .const v=>ZwB v
 | .global _=> .unk
 | .func f=> .d (.fn f [])
def PV.cells? :PV->Option (List PV)
 | .d (.tup _)=>none
 | .d x=>some (x.cells.map .d)
 | .ag cs=>some cs
 | .tup _=>none
 | .unk=>none
 | .und=>none
 | .ab=>none
 | .ref o sz off len cap=>some [.ref o sz off len cap]
 | .ptr o sz i c=>some [.ptr o sz i c]
 | .nilS=>some [.nilS]
 | .z0=>some [.z0]
 | .fn f caps=>some [.fn f caps]
 | .mp o=>some [.mp o]
 | .ifp T o=>some [.ifp T o]
structure TyI where
 size:Nat
 agg:Bool
 zero:List Value
 elem:TypeId
 len:Nat
 kind:Nat
 fields:List (Nat×TypeId)
 bytes:Nat
 ok:Bool
 zok:Bool
 peq:Bool
 places:List (Nat×Nat)
 bok:Bool
 bk:Bool
def Zj8 (P:Program):Nat->List Field->Bool
 |_,[]=>true
 |n,f::fs=>f.name != "_" &&f.offset==n&&(match P.underlying f.type with|some (.int _)=>true|_=>false)&&Zj8 P (n+1) fs
def ZrW (P:Program)(k e:TypeId):Bool:=
 (match P.underlying k with|some (.int .i64)=>true|_=>false)&&(match P.info? e with|some i=>(match i.zero with|some (.int .i64 0)=>true|_=>false)|none=>false)
def tyi (P:Program)(t:TypeId):TyI:=
 {size:=P.cellsOf t
  agg:=match P.underlying t with|some (.struct _)=>true|some (.array _ _)=>true|_=>false
  zero:=match P.info? t with|some i=>(match i.zero with|some z=>z.cells.toList|none=>[])|none=>[]
  elem:=match P.underlying t with|some (.slice e)=>e|some (.array _ e)=>e|some (.pointer e)=>e|_=>0
  len:=match P.underlying t with|some (.array n _)=>n|_=>0
  kind:=match P.underlying t with|some (.slice _)=>1|some (.array _ _)=>2|some (.struct _)=>3|some (.pointer _)=>4|some .bool=>6|some (.int _)=>5|some .string=>8|some (.map k e)=>(if ZrW P k e=true then 7 else 0)|_=>0
  fields:=match P.underlying t with|some (.struct fs)=>fs.toList.map λ f=>(f.offset,f.type)|_=>[]
  bytes:=P.bytesOf t
  ok:=(P.underlying t).isSome
  zok:=match P.info? t with|some i=>(match i.zero with|some z=>z.cells.size==P.cellsOf t&&z.cells.all Value.oneCell'&&P.cellsOf t != 0&&(P.cellsOf t==1||(match P.underlying t with|some (.struct _)=>true|some (.array _ _)=>true|_=>false))|none=>false)|none=>false
  peq:=match P.underlying t with|some (.struct fs)=>Zj8 P 0 fs.toList&& !P.stoodInHeld t&& !P.eqGuardType P.depth t&&fs.size==P.cellsOf t|_=>false
  places:=match P.underlying t with|some (.struct fs)=>((fs.toList.mapM λ f=>(P.info? f.type).map λ i=>(f.offset,i.size)).getD [])|_=>[]
  bok:=match P.underlying t with|some (.struct fs)=>(fs.toList.mapM λ f=>(P.info? f.type).map λ i=>(f.offset,i.size)).isSome|_=>false
  bk:=match P.underlying t with|some (.int .u8)=>true|_=>false}
def ZbZ {α:Type}(cs:List α)(off:Nat)(xs:List α):List α:=cs.take off++xs++cs.drop (off+xs.length)
def toD (objs:Nat->Ob):Nat->PV->Option D
 |0,_=>none
 |_+1, .d x=>some x
 |_+1, .nilS=>some (.sl [])
 |_+1, .z0=>some (.sl [])
 |_+1, .unk=>none
 |_+1, .und=>none
 |_+1, .ab=>none
 |_+1, .mp _=>none
 |_+1, .ifp _ _=>none
 |n+1, .ref o sz off len _=>match objs o with
  | .row sz' l=>if sz=sz'/\off+len<=l.length then some (.sl ((l.drop off).take len))else none
  | .cells cs=>if sz=1/\off+len<=cs.length then(((cs.drop off).take len).mapM (toD objs n)).map .sl else none
  |_=>none
 |n+1, .ptr o _ i c=>match objs o with
  | .cells cs=>if i=0/\c=0 then((cs.mapM (toD objs n)).map .pt)else none
  |_=>none
 |n+1, .ag cs=>(cs.mapM (toD objs n)).map .ag
 |n+1, .tup cs=>(cs.mapM (toD objs n)).map .tup
 |n+1, .fn f cs=>(cs.mapM (toD objs n)).map (.fn f)
def PV.refs (objs:Nat->Ob):Nat->PV->List Nat
 |0,_=>[]
 |n+1, .ref o _ off len _=>match objs o with
  | .cells cs=>o::((cs.drop off).take len).flatMap (PV.refs objs n)
  |_=>[o]
 |n+1, .ptr o _ _ _=>match objs o with
  | .cells cs=>o::cs.flatMap (PV.refs objs n)
  |_=>[o]
 |n+1, .ag cs=>cs.flatMap (PV.refs objs n)
 |n+1, .tup cs=>cs.flatMap (PV.refs objs n)
 |n+1, .fn _ cs=>cs.flatMap (PV.refs objs n)
 |_+1, .d _=>[]
 |_+1, .nilS=>[]
 |_+1, .z0=>[]
 |_+1, .unk=>[]
 |_+1, .und=>[]
 |_+1, .ab=>[]
 |_+1, .mp o=>[o]
 |_+1, .ifp _ o=>[o]
def D.flat :Nat->D->Bool
 |0,_=>false
 |n+1,x=>
  match x with
  | .sc _=>true
  | .ag cs| .tup cs=>cs.all (D.flat n)
  | .sl l=>l.isEmpty
  |_=>false
mutual
def PV.frz (o sz:Nat)(l:List D):PV->PV
 | .ref o' sz' off len cap=>if o'=o then(if sz'=sz/\off+len<=l.length then .d (.sl ((l.drop off).take len))else .unk)else .ref o' sz' off len cap
 | .ptr o' sz' i c=>if o'=o then(if sz'=sz/\i<l.length then .d (.pt ((l[i]?.getD (.sc undef)).cells.drop c))else .unk)else .ptr o' sz' i c
 | .ag cs=> .ag (PV.frzL o sz l cs)
 | .tup cs=> .tup (PV.frzL o sz l cs)
 | .fn f cs=> .fn f (PV.frzL o sz l cs)
 | .d x=> .d x
 | .nilS=> .nilS
 | .z0=> .z0
 | .unk=> .unk
 | .und=> .und
 | .ab=> .ab
 | .mp o'=>if o'=o then .unk else .mp o'
 | .ifp T o'=>if o'=o then .unk else .ifp T o'
def PV.frzL (o sz:Nat)(l:List D):List PV->List PV
 |[]=>[]
 |c::cs=>PV.frz o sz l c::PV.frzL o sz l cs
end
def Ob.frz (o sz:Nat)(l:List D):Ob->Ob
 | .cells cs=> .cells (PV.frzL o sz l cs)
 | .dead=> .dead
 | .gone=> .gone
 | .row sz l=> .row sz l
 | .imap l=> .imap l
 | .iter m k sn=>if m=o then .gone else .iter m k sn
def Znf (o sz:Nat)(l:List D)(env:Nat->PV):Nat->PV:=λ i=>(env i).frz o sz l
def Zg2 (o sz:Nat)(l:List D)(objs:Nat->Ob):Nat->Ob:=λ i=>(objs i).frz o sz l
theorem ZxF (o sz:Nat)(l:List D)(env:Nat->PV)(i:Nat):Znf o sz l env i=(env i).frz o sz l:=rfl
theorem Zgq (o sz:Nat)(l:List D)(objs:Nat->Ob)(i:Nat):Zg2 o sz l objs i=(objs i).frz o sz l:=rfl
structure Eff where
 val:PV
 wr:List (Nat×Ob):=[]
 rd:List Nat:=[]
instance : Inhabited Eff:=⟨{val:= .unk}⟩
abbrev Eff.v (x:PV):Eff:={val:=x}
def wrs :List (Nat×Ob)->(Nat->Ob)->Nat->Ob
 |[],objs=>objs
 |(o,ob)::r,objs=>upd o ob (wrs r objs)
def St.app (S:St)(dst:Option Nat)(e:Eff):St:=
 {env:=match dst with|some t=>upd t e.val S.env|none=>S.env
  objs:=wrs e.wr S.objs}
instance : Inhabited D:=⟨.sc default⟩
instance : Inhabited PV:=⟨.unk⟩
abbrev CE :=Prop×Eff
abbrev CE.no :CE:=(False,{val:= .unk})
abbrev CE.v (x:PV):CE:=(True,{val:=x})
def PV.asD :PV->Option D
 | .d x=>some x
 | .nilS=>some (.sl [])
 | .z0=>some (.sl [])
 | .ref .. =>none
 | .ptr .. =>none
 | .ag _=>none
 | .tup _=>none
 | .fn _ _=>none
 | .unk=>none
 | .und=>none
 | .ab=>none
 | .mp _=>none
 | .ifp _ _=>none
def ldD (ty:TyI)(cs:List D):Prop×D:=
 if ty.agg then(ty.size<=cs.length, .ag (cs.take ty.size))else match cs with
  |x::_=>(True,x)
  |[]=>(False,default)
def ldP (ty:TyI)(cs:List PV):Prop×PV:=
 if ty.agg then(ty.size<=cs.length, .ag (cs.take ty.size))else match cs with
  |x::_=>(True,x)
  |[]=>(False,default)
def Zfs (ty:TyI)(ob:Ob)(sz i c:Nat):Prop×PV:=
 match ob with
 | .cells cs=>((ldP ty (cs.drop (i*sz+c))).1,(ldP ty (cs.drop (i*sz+c))).2)
 | .row sz' l=>(sz=sz'/\i<l.length/\(ldD ty ((l[i]?.getD default).cells.drop c)).1, .d (ldD ty ((l[i]?.getD default).cells.drop c)).2)
 | .dead=>(False, .unk)
 | .gone=>(False, .unk)
 | .imap _=>(False, .unk)
 | .iter _ _ _=>(False, .unk)
def mkD (like:D)(cs:List D):D:=
 match like with
 | .ag _=> .ag cs
 |_=>match cs with|[x]=>x|_=> .ag cs
def Zkl (ob:Ob)(sz i c:Nat)(vs:List PV):Prop×Ob:=
 match ob with
 | .cells cs=>(i*sz+c+vs.length<=cs.length, .cells (ZbZ cs (i*sz+c) vs))
 | .row sz' l=>match vs.mapM PV.asD with
  |some ds=>(sz=sz'/\i<l.length/\c+ds.length<=(l[i]?.getD default).cells.length, .row sz' (l.set i (mkD (l[i]?.getD default) (ZbZ (l[i]?.getD default).cells c ds))))
  |none=>(False, .dead)
 | .dead=>(False, .dead)
 | .gone=>(False, .gone)
 | .imap _=>(False, .dead)
 | .iter _ _ _=>(False, .dead)
def Zbi :List (Int×Int)->Int->Int
 |[],_=>0
 |(a,b)::r,k=>if a=k then b else Zbi r k
def Zd9 :List (Int×Int)->Int->Int->List (Int×Int)
 |[],k,v=>[(k,v)]
 |(a,b)::r,k,v=>if a=k then(k,v)::r else(a,b)::Zd9 r k v
def ZiD (pl:Nat->Option (Nat×Nat))(cells:List PV):List (Nat×PV)->Option (List PV)
 |[]=>some cells
 |(i,x)::rest=>
  match pl i,x.cells? with
  |some (off,sz),some cs=>if cs.length=sz/\off+sz<=cells.length then ZiD pl (ZbZ cells off cs) rest else none
  |_,_=>none
def D.notTup :D->Bool
 | .tup _=>false
 |_=>true
def Zgo (sz:Nat):List D->List (Nat×Option D)->Option (List D)
 |l,[]=>some l
 |l,(i,some d)::r=>if i<l.length/\d.cells.length=sz/\d.notTup=true then Zgo sz (l.set i d) r else none
 |_,(_,none)::_=>none
def ZeP (op:BinOp)(a b:Int):Prop×Value:=
 match op with
 | .add=>(True, .int .i64 (IntKind.i64.wrap (a+b)))
 | .sub=>(True, .int .i64 (IntKind.i64.wrap (a-b)))
 | .mul=>(True, .int .i64 (IntKind.i64.wrap (a*b)))
 | .quo=>(b≠0, .int .i64 (IntKind.i64.wrap (a.tdiv b)))
 | .rem=>(b≠0, .int .i64 (a.tmod b))
 | .shl=>(0<=b, .int .i64 (IntKind.i64.wrap (a*2^(min b.toNat 64))))
 | .shr=>(0<=b, .int .i64 (a.fdiv (2^(min b.toNat 64))))
 | .and=>(True, .int .i64 (IntKind.i64.wrap ((BitVec.ofInt 64 a&&&BitVec.ofInt 64 b).toNat:Int)))
 | .or=>(True, .int .i64 (IntKind.i64.wrap ((BitVec.ofInt 64 a|||BitVec.ofInt 64 b).toNat:Int)))
 | .xor=>(True, .int .i64 (IntKind.i64.wrap ((BitVec.ofInt 64 a^^^BitVec.ofInt 64 b).toNat:Int)))
 | .andNot=>(True, .int .i64 (IntKind.i64.wrap ((BitVec.ofInt 64 a&&&~~~BitVec.ofInt 64 b).toNat:Int)))
 | .eql=>(True, .bool (decide (a=b)))
 | .neq=>(True, .bool (!decide (a=b)))
 | .lss=>(True, .bool (decide (a<b)))
 | .leq=>(True, .bool (decide (a<=b)))
 | .gtr=>(True, .bool (decide (b<a)))
 | .geq=>(True, .bool (decide (b<=a)))
def ZeQ (op:BinOp)(a b:Int):Prop×Value:=
 match op with
 | .add=>(True, .int .u64 (IntKind.u64.wrap (a+b)))
 | .sub=>(True, .int .u64 (IntKind.u64.wrap (a-b)))
 | .mul=>(True, .int .u64 (IntKind.u64.wrap (a*b)))
 | .quo=>(False, .int .u64 0)
 | .rem=>(False, .int .u64 0)
 | .shl=>(0<=b, .int .u64 (IntKind.u64.wrap (a*2^(min b.toNat 64))))
 | .shr=>(0<=b, .int .u64 (a.fdiv (2^(min b.toNat 64))))
 | .and=>(True, .int .u64 (IntKind.u64.wrap ((BitVec.ofInt 64 a&&&BitVec.ofInt 64 b).toNat:Int)))
 | .or=>(True, .int .u64 (IntKind.u64.wrap ((BitVec.ofInt 64 a|||BitVec.ofInt 64 b).toNat:Int)))
 | .xor=>(True, .int .u64 (IntKind.u64.wrap ((BitVec.ofInt 64 a^^^BitVec.ofInt 64 b).toNat:Int)))
 | .andNot=>(True, .int .u64 (IntKind.u64.wrap ((BitVec.ofInt 64 a&&&~~~BitVec.ofInt 64 b).toNat:Int)))
 | .eql=>(True, .bool (decide (a=b)))
 | .neq=>(True, .bool (!decide (a=b)))
 | .lss=>(True, .bool (decide (a<b)))
 | .leq=>(True, .bool (decide (a<=b)))
 | .gtr=>(True, .bool (decide (b<a)))
 | .geq=>(True, .bool (decide (b<=a)))
def ZfU :List PV->List PV->Option Bool
 |[],[]=>some true
 | .d (.sc (.int .i64 a))::r, .d (.sc (.int .i64 b))::s=>(ZfU r s).map (decide (a=b)&&·)
 |_,_=>none
def PV.agg? :PV->Option (List PV)
 | .ag cs=>some cs
 | .d (.ag cs)=>some (cs.map .d)
 |_=>none
def Zdx :PV->Option Nat
 | .d (.sl l)=>some l.length
 | .ref _ _ _ len _=>some len
 | .nilS=>some 0
 | .z0=>some 0
 |_=>none
end Go.PS
