/- Short names of library theorems that are used often. -/
import Derived.WalkKit
set_option linter.unusedSimpArgs false
set_option linter.unusedVariables false
set_option maxHeartbeats 16000000
namespace Go
abbrev uA.{u}:= @List.mem_of_getElem?.{u}
abbrev uB.{u}:= @List.getElem?_eq_some_iff.{u}
abbrev uC.{u,v}:= @List.length_map.{u,v}
abbrev uD.{u}:= @List.take_of_length_le.{u}
abbrev uE := @Nat.lt_or_ge
abbrev uF := @decide_eq_true_eq
abbrev uG.{u}:= @List.length_append.{u}
abbrev uH := @Nat.zero_le
abbrev uI.{u,v}:= @List.getElem?_map.{u,v}
abbrev uJ := @Nat.le_refl
abbrev uK.{u}:= @List.forall_mem_cons.{u}
abbrev uL := @Bool.and_eq_true
abbrev uM := @Int.toNat_natCast
abbrev uN.{u}:= @List.getElem?_eq_none.{u}
abbrev uO.{u}:= @List.mem_cons_of_mem.{u}
abbrev uP.{u,v}:= @List.mem_map.{u,v}
abbrev uQ.{u,v}:= @List.map_append.{u,v}
abbrev uR.{u}:= @List.getElem?_eq_getElem.{u}
abbrev uS.{u}:= @List.mem_singleton.{u}
abbrev uT.{u,v}:= @List.map_cons.{u,v}
abbrev uU.{u}:= @Array.getElem?_eq_getElem.{u}
abbrev uV := @decide_eq_false
abbrev uW.{u}:= @List.forall_mem_nil.{u}
abbrev uX.{u}:= @List.all_eq_true.{u}
abbrev uY.{u}:= @List.length_nil.{u}
abbrev uZ := @List.mem_range
abbrev yA := @Nat.le_of_ble_eq_true
abbrev yB.{u}:= @List.length_cons.{u}
abbrev yC := @Bool.not_eq_true'
abbrev yD := @decide_eq_true
abbrev yE.{u}:= @List.take_length.{u}
abbrev yF.{u}:= @List.mem_cons.{u}
abbrev yH.{u,v}:= @List.map_nil.{u,v}
abbrev yI.{u}:= @Option.some.injEq.{u}
abbrev yJ.{u}:= @List.length_take.{u}
abbrev yK.{u}:= @List.mem_append.{u}
abbrev yL.{u}:= @List.length_singleton.{u}
abbrev yM.{u,v}:= @List.map_congr_left.{u,v}
abbrev yN.{u}:= @Option.getD_some.{u}
abbrev yO := @Nat.mul_le_mul_right
abbrev yP.{u}:= @List.length_set.{u}
abbrev yQ.{u}:= @List.contains_eq_mem.{u}
abbrev yR := @List.getElem?_range
abbrev yS.{u}:= @List.any_eq_false.{u}
abbrev yT.{u}:= @List.append_nil.{u}
abbrev yU.{u}:= @List.getElem?_of_mem.{u}
abbrev yV.{u}:= @List.mem_iff_getElem?.{u}
abbrev yW.{u}:= @List.nodup_cons.{u}
abbrev yX.{u}:= @List.take_zero.{u}
abbrev yY := @Nat.lt_succ_iff_lt_or_eq
abbrev yZ.{u,v}:= @List.map_set.{u,v}
abbrev qA.{u}:= @List.ext_getElem?.{u}
abbrev qB.{u,v}:= @Option.map_some.{u,v}
abbrev qC := @decide_eq_false_iff_not
abbrev qD := @Bool.false_eq_true
abbrev qE.{u}:= @List.getElem?_append_left.{u}
abbrev qF.{u}:= @List.getElem?_append_right.{u}
abbrev qG.{u}:= @List.append_eq.{u}
abbrev qH.{u}:= @List.getElem?_take.{u}
abbrev qI.{u}:= @List.eq_nil_of_length_eq_zero.{u}
abbrev qJ := @Nat.add_mul
abbrev qK.{u}:= @List.append_assoc.{u}
abbrev qL.{u}:= @List.getElem?_set.{u}
abbrev qM := @Nat.eq_zero_or_pos
abbrev qN := @List.range_succ
abbrev qO.{u}:= @Array.getD_eq_getD_getElem?.{u}
abbrev qP.{u}:= @List.mem_reverse.{u}
abbrev qQ := @Int.natCast_add
abbrev qR.{u}:= @List.drop_zero.{u}
abbrev qS.{u}:= @Array.getElem?_toList.{u}
abbrev qT := @Nat.zero_add
abbrev qU.{u,v}:= @congrArg.{u,v}
abbrev qV := @Bool.eq_iff_iff
abbrev qW.{u}:= @List.length_replicate.{u}
abbrev qX := @Int.le_refl
abbrev qY.{u}:= @List.drop_eq_getElem_cons.{u}
abbrev qZ := @Bool.or_eq_true
abbrev gA.{u}:= @List.getElem?_drop.{u}
abbrev gB.{u}:= @Array.getElem?_eq_some_iff.{u}
abbrev gC.{u}:= @List.filter_append.{u}
abbrev gE.{u}:= @List.pairwise_append.{u}
abbrev gF.{u}:= @List.any_eq_true.{u}
abbrev gG := @Nat.lt_of_lt_of_le
abbrev gH.{u}:= @List.getElem?_replicate.{u}
abbrev gI := @Classical.byContradiction
abbrev gJ.{u}:= @List.take_append_drop.{u}
abbrev gK.{u,v}:= @List.flatMap_cons.{u,v}
abbrev gL.{u}:= @List.not_mem_nil.{u}
abbrev gM.{u}:= @Array.getElem?_append.{u}
abbrev gN.{u}:= @List.length_filter_le.{u}
abbrev gO.{u}:= @List.pairwise_iff_getElem.{u}
abbrev gP := @Nat.le_trans
abbrev gQ.{u}:= @List.getElem?_set_self.{u}
abbrev gR.{u,v,w}:= @List.map_map.{u,v,w}
abbrev gS.{u}:= @List.idxOf_lt_length_of_mem.{u}
abbrev gT.{u}:= @List.mem_of_mem_take.{u}
abbrev gU.{u}:= @List.nil_append.{u}
abbrev gV := @Int.natCast_one
abbrev gW.{u}:= @List.getD_eq_getElem?_getD.{u}
abbrev gX := @Nat.add_zero
abbrev gY.{u}:= @Array.mem_of_getElem?.{u}
abbrev gZ := @Decidable.em
abbrev jA.{u}:= @if_false.{u}
abbrev jB.{u}:= @List.getElem?_append.{u}
abbrev jC.{u}:= @List.pairwise_flatten.{u}
abbrev jD := @Nat.sub_self
abbrev jE := @Nat.min_eq_left
abbrev jF.{u,v}:= @List.foldl_cons.{u,v}
abbrev jG := @List.range_zero
abbrev jH.{u}:= @List.cons_append.{u}
abbrev jI.{u}:= @List.sum_cons.{u}
abbrev jJ.{u}:= @List.getElem?_set_ne.{u}
abbrev jK := @Nat.zero_mul
abbrev jL.{u}:= @List.findIdx?_cons.{u}
abbrev jM.{u}:= @Array.all_eq_true_iff_forall_mem.{u}
abbrev jN.{u}:= @List.length_eq_zero_iff.{u}
abbrev jO.{u}:= @List.getElem_mem.{u}
abbrev jP.{u}:= @List.filter_cons.{u}
abbrev jQ.{u}:= @List.mem_or_eq_of_mem_set.{u}
abbrev jR.{u,v}:= @List.mem_map_of_mem.{u,v}
abbrev jS := @Nat.mul_one
abbrev jT := @Nat.lt_trichotomy
abbrev jU.{u,v,w}:= @List.mapM_cons.{u,v,w}
abbrev jV.{u}:= @List.length_erase_of_mem.{u}
abbrev jW := @Int.add_zero
abbrev jX.{u}:= @List.filter_nil.{u}
abbrev jY.{u}:= @Option.isSome_some.{u}
abbrev jZ.{u}:= @List.set_cons_zero.{u}
abbrev kA := @Bool.false_ne_true
abbrev kB.{u}:= @List.getElem?_cons_succ.{u}
abbrev kC.{u}:= @List.length_drop.{u}
abbrev kD := @Nat.pow_le_pow_right
abbrev kH := @Bool.true_and
abbrev kI.{u}:= @List.drop_eq_nil_of_le.{u}
abbrev kJ.{u}:= @List.size_toArray.{u}
abbrev kK := @List.pairwise_lt_range
abbrev kL.{u}:= @List.nodup_append.{u}
abbrev kQ.{u}:= @List.getElem?_toArray.{u}
abbrev kS.{u,v}:= @Array.getElem?_map.{u,v}
abbrev kT := @List.nodup_range
abbrev kU.{u,v}:= @List.mem_flatMap.{u,v}
abbrev kV.{u}:= @List.pairwise_cons.{u}
abbrev kW.{u,v}:= @List.map_replicate.{u,v}
abbrev kX := @Nat.add_assoc
abbrev kY.{u}:= @List.mem_of_mem_drop.{u}
abbrev kZ := @Nat.mul_le_mul
abbrev zA.{u}:= @List.nodup_nil.{u}
abbrev zB.{u}:= @List.reverse_reverse.{u}
abbrev zC.{u}:= @List.pairwise_singleton.{u}
abbrev zD.{u}:= @Array.getElem?_setIfInBounds.{u}
abbrev zE.{u}:= @List.replicate_succ.{u}
abbrev zF.{u}:= @List.append_toArray.{u}
abbrev zG := @Nat.sub_zero
abbrev zH.{u}:= @List.length_pos_of_mem.{u}
abbrev zI := @Nat.testBit_lt_two_pow
abbrev zJ := @Int.add_assoc
abbrev zK.{u}:= @List.mem_flatten.{u}
abbrev zL.{u}:= @beq_iff_eq.{u}
abbrev zM.{u}:= @Array.getElem?_append_left.{u}
abbrev zN.{u}:= @List.getElem_idxOf.{u}
abbrev zO := @Int.tdiv_eq_ediv_of_nonneg
abbrev zP.{u}:= @List.eq_replicate_iff.{u}
abbrev zQ.{u}:= @List.mem_filter.{u}
abbrev zR.{u}:= @Option.some.inj.{u}
abbrev zS := @Nat.not_lt_zero
abbrev zT := @decide_false
abbrev zU := @List.length_range
abbrev zV := @Bool.eq_false_iff
abbrev zW := @Int.mul_add
abbrev zX.{u}:= @List.mem_erase_of_ne.{u}
abbrev zY.{u}:= @Array.replicate_succ.{u}
abbrev zZ.{u}:= @Array.replicate_zero.{u}
abbrev Aa.{u}:= @List.eq_of_mem_replicate.{u}
abbrev Ab.{u}:= @Array.getElem?_setIfInBounds_ne.{u}
abbrev Ac.{u}:= @List.drop_succ_cons.{u}
abbrev Ad.{u}:= @List.flatten_append.{u}
abbrev Ae.{u}:= @List.length_pos_iff.{u}
abbrev Af := @Bool.false_and
abbrev Ag := @Bool.and_false
abbrev Ah.{u}:= @List.isEmpty_iff.{u}
abbrev Ai := @Int.mul_le_mul_of_nonneg_right
abbrev Aj := @Bool.toNat_false
abbrev Ak.{u}:= @List.set_cons_succ.{u}
abbrev Am := @Nat.add_sub_cancel
abbrev An := @Int.le_trans
abbrev Ao := @Bool.not_eq_false'
abbrev Ap.{u,v}:= @List.map_take.{u,v}
abbrev Aq.{u}:= @List.mem_append_right.{u}
abbrev Ar := @Classical.not_not
abbrev As.{u}:= @List.push_toArray.{u}
abbrev Au.{u}:= @List.flatten_cons.{u}
abbrev Av.{u}:= @Array.getElem?_setIfInBounds_self_of_lt.{u}
abbrev Aw := @Bool.not_false
abbrev Ax := @decide_true
abbrev Ay.{u}:= @List.perm_ext_iff_of_nodup.{u}
abbrev Az := @Nat.eq_of_testBit_eq
abbrev Ba := @Nat.pow_lt_pow_right
abbrev Bb.{u,v}:= @List.flatMap_nil.{u,v}
abbrev Bc.{u}:= @List.perm_middle.{u}
abbrev Be := @Int.lt_or_le
abbrev Bg.{u}:= @List.getLast?_eq_getElem?.{u}
abbrev Bh := @Decidable.byContradiction
abbrev Bi.{u}:= @List.take_succ_cons.{u}
abbrev Bj.{u}:= @Array.length_toList.{u}
abbrev Bk.{u}:= @List.getElem?_take_of_lt.{u}
abbrev Bl.{u,v}:= @Prod.mk.injEq.{u,v}
abbrev Bm := @Bool.false_or
abbrev Bp.{u}:= @List.Perm.eq_of_pairwise.{u}
abbrev Bq := @Int.mul_assoc
abbrev Br.{u,v}:= @Option.map_none.{u,v}
abbrev Bt.{u}:= @List.getElem?_cons_zero.{u}
abbrev Bu.{u,v}:= @List.flatMap_eq_nil_iff.{u,v}
abbrev Bv := @Nat.add_sub_cancel_left
abbrev Bw.{u,v}:= @List.foldl_append.{u,v}
abbrev By := @Int.mul_zero
abbrev Bz.{u}:= @List.eq_nil_or_concat.{u}
abbrev Ca.{u}:= @List.concat_eq_append.{u}
abbrev Cb := @Nat.zero_testBit
abbrev Cc := @decide_eq_decide
abbrev Cd := @Bool.not_eq_true
abbrev Ce := @Bool.not_true
abbrev Cf := @or_false
abbrev Cg.{u}:= @List.Pairwise.filter.{u}
abbrev Ch.{u}:= @List.mem_append_left.{u}
abbrev Ci.{u}:= @List.idxOf_cons_self.{u}
abbrev Cj := @Int.mul_le_mul_of_nonneg_left
abbrev Ck.{u}:= @List.sum_append.{u}
abbrev Cm.{u}:= @List.set_append.{u}
abbrev Cn.{u}:= @List.replicate_zero.{u}
abbrev Co.{u}:= @List.filter_eq_self.{u}
abbrev Cp := @Nat.mul_comm
abbrev Cq := @Nat.testBit_two_pow_sub_one
abbrev Cr := @Bool.or_true
abbrev Cs := @Bool.true_or
abbrev Ct := @and_self
abbrev Cu.{u}:= @bne_iff_ne.{u}
abbrev Cv.{u}:= @Array.empty_append.{u}
abbrev Cw.{u,v}:= @List.foldl_nil.{u,v}
abbrev Cx := @Int.add_sub_cancel
abbrev Cz.{u}:= @Option.isSome_none.{u}
abbrev Da := @Int.fdiv_eq_ediv_of_nonneg
abbrev Db := @of_decide_eq_true
abbrev Dc := @Nat.mod_eq_of_lt
abbrev De := @Nat.mod_lt
abbrev Df := @Int.mul_comm
abbrev Dg := @Nat.ne_of_lt
abbrev Dh := @Int.le_of_lt
abbrev Di := @Nat.lt_add_one
abbrev Dj := @true_and
end Go
namespace Go.PS
open Go
inductive D where
 |sc (v:Value)
 |ag (cs:List D)
 |sl (l:List D)
 |tup (vs:List D)
 |pt (cs:List D)
 |fn (f:FuncId) (caps:List D)
def D.cells :D->List D
 | .ag cs=>cs
 | .sc v=>[.sc v]
 | .sl l=>[.sl l]
 | .tup vs=>[.tup vs]
 | .pt cs=>[.pt cs]
 | .fn f caps=>[.fn f caps]
abbrev D.int (n:Int):D:= .sc (.int .i64 n)
abbrev D.bool (b:Bool):D:= .sc (.bool b)
inductive PV where
 |d (x:D)
 |ref (o sz off len cap:Nat)
 |ptr (o sz i c:Nat)
 |nilS
 |z0
 |ag (cs:List PV)
 |tup (vs:List PV)
 |fn (f:FuncId) (caps:List PV)
 |unk
 |und
 |ab
 |mp (o:Nat)
 |ifp (T o:Nat)
abbrev PV.int (n:Int):PV:= .d (.sc (.int .i64 n))
abbrev PV.bool (b:Bool):PV:= .d (.sc (.bool b))
inductive Ob where
 |dead
 |gone
 |cells (cs:List PV)
 |row (sz:Nat) (l:List D)
 |imap (l:List (Int×Int))
 |iter (m k:Nat) (sn:List Nat)
structure St where
 env:Nat->PV
 objs:Nat->Ob
def upd {α:Type}(i:Nat)(x:α)(f:Nat->α):Nat->α:=λ j=>if j=i then x else f j
def ZfR :Value->PV
 | .slice none 0 0=> .nilS
 |v=> .d (.sc v)
def ZxJ :Value->PV
 | .agg cs=> .ag (cs.toList.map ZfR)
 |v=>ZfR v
def St.ev (S:St):Operand->PV
 | .tmp t=>S.env t
 | .const v=>ZxJ v
 | .global _=> .unk
 | .func f=> .d (.fn f [])
def PV.cells? :PV->Option (List PV)
 | .d (.tup _)=>none
 | .d x=>some (x.cells.map .d)
 | .ag cs=>some cs
 | .tup _=>none
 | .unk=>none
 | .und=>none
 | .ab=>none
 | .ref o sz off len cap=>some [.ref o sz off len cap]
 | .ptr o sz i c=>some [.ptr o sz i c]
 | .nilS=>some [.nilS]
 | .z0=>some [.z0]
 | .fn f caps=>some [.fn f caps]
 | .mp o=>some [.mp o]
 | .ifp T o=>some [.ifp T o]
structure TyI where
 size:Nat
 agg:Bool
 zero:List Value
 elem:TypeId
 len:Nat
 kind:Nat
 fields:List (Nat×TypeId)
 bytes:Nat
 ok:Bool
 zok:Bool
 peq:Bool
 places:List (Nat×Nat)
 bok:Bool
 bk:Bool
def Zks (P:Program):Nat->List Field->Bool
 |_,[]=>true
 |n,f::fs=>f.name != "_" &&f.offset==n&&(match P.underlying f.type with|some (.int _)=>true|_=>false)&&Zks P (n+1) fs
def ZsG (P:Program)(k e:TypeId):Bool:=
 (match P.underlying k with|some (.int .i64)=>true|_=>false)&&(match P.info? e with|some i=>(match i.zero with|some (.int .i64 0)=>true|_=>false)|none=>false)
def tyi (P:Program)(t:TypeId):TyI:=
 {size:=P.cellsOf t
  agg:=match P.underlying t with|some (.struct _)=>true|some (.array _ _)=>true|_=>false
  zero:=match P.info? t with|some i=>(match i.zero with|some z=>z.cells.toList|none=>[])|none=>[]
  elem:=match P.underlying t with|some (.slice e)=>e|some (.array _ e)=>e|some (.pointer e)=>e|_=>0
  len:=match P.underlying t with|some (.array n _)=>n|_=>0
  kind:=match P.underlying t with|some (.slice _)=>1|some (.array _ _)=>2|some (.struct _)=>3|some (.pointer _)=>4|some .bool=>6|some (.int _)=>5|some .string=>8|some (.map k e)=>(if ZsG P k e=true then 7 else 0)|_=>0
  fields:=match P.underlying t with|some (.struct fs)=>fs.toList.map λ f=>(f.offset,f.type)|_=>[]
  bytes:=P.bytesOf t
  ok:=(P.underlying t).isSome
  zok:=match P.info? t with|some i=>(match i.zero with|some z=>z.cells.size==P.cellsOf t&&z.cells.all Value.oneCell'&&P.cellsOf t != 0&&(P.cellsOf t==1||(match P.underlying t with|some (.struct _)=>true|some (.array _ _)=>true|_=>false))|none=>false)|none=>false
  peq:=match P.underlying t with|some (.struct fs)=>Zks P 0 fs.toList&& !P.stoodInHeld t&& !P.eqGuardType P.depth t&&fs.size==P.cellsOf t|_=>false
  places:=match P.underlying t with|some (.struct fs)=>((fs.toList.mapM λ f=>(P.info? f.type).map λ i=>(f.offset,i.size)).getD [])|_=>[]
  bok:=match P.underlying t with|some (.struct fs)=>(fs.toList.mapM λ f=>(P.info? f.type).map λ i=>(f.offset,i.size)).isSome|_=>false
  bk:=match P.underlying t with|some (.int .u8)=>true|_=>false}
def ZbX {α:Type}(cs:List α)(off:Nat)(xs:List α):List α:=cs.take off++xs++cs.drop (off+xs.length)
def toD (objs:Nat->Ob):Nat->PV->Option D
 |0,_=>none
 |_+1, .d x=>some x
 |_+1, .nilS=>some (.sl [])
 |_+1, .z0=>some (.sl [])
 |_+1, .unk=>none
 |_+1, .und=>none
 |_+1, .ab=>none
 |_+1, .mp _=>none
 |_+1, .ifp _ _=>none
 |n+1, .ref o sz off len _=>match objs o with
  | .row sz' l=>if sz=sz'/\off+len<=l.length then some (.sl ((l.drop off).take len))else none
  | .cells cs=>if sz=1/\off+len<=cs.length then(((cs.drop off).take len).mapM (toD objs n)).map .sl else none
  |_=>none
 |n+1, .ptr o _ i c=>match objs o with
  | .cells cs=>if i=0/\c=0 then((cs.mapM (toD objs n)).map .pt)else none
  |_=>none
 |n+1, .ag cs=>(cs.mapM (toD objs n)).map .ag
 |n+1, .tup cs=>(cs.mapM (toD objs n)).map .tup
 |n+1, .fn f cs=>(cs.mapM (toD objs n)).map (.fn f)
def PV.refs (objs:Nat->Ob):Nat->PV->List Nat
 |0,_=>[]
 |n+1, .ref o _ off len _=>match objs o with
  | .cells cs=>o::((cs.drop off).take len).flatMap (PV.refs objs n)
  |_=>[o]
 |n+1, .ptr o _ _ _=>match objs o with
  | .cells cs=>o::cs.flatMap (PV.refs objs n)
  |_=>[o]
 |n+1, .ag cs=>cs.flatMap (PV.refs objs n)
 |n+1, .tup cs=>cs.flatMap (PV.refs objs n)
 |n+1, .fn _ cs=>cs.flatMap (PV.refs objs n)
 |_+1, .d _=>[]
 |_+1, .nilS=>[]
 |_+1, .z0=>[]
 |_+1, .unk=>[]
 |_+1, .und=>[]
 |_+1, .ab=>[]
 |_+1, .mp o=>[o]
 |_+1, .ifp _ o=>[o]
def D.flat :Nat->D->Bool
 |0,_=>false
 |n+1,x=>
  match x with
  | .sc _=>true
  | .ag cs| .tup cs=>cs.all (D.flat n)
  | .sl l=>l.isEmpty
  |_=>false
mutual
def PV.frz (o sz:Nat)(l:List D):PV->PV
 | .ref o' sz' off len cap=>if o'=o then(if sz'=sz/\off+len<=l.length then .d (.sl ((l.drop off).take len))else .unk)else .ref o' sz' off len cap
 | .ptr o' sz' i c=>if o'=o then(if sz'=sz/\i<l.length then .d (.pt ((l[i]?.getD (.sc undef)).cells.drop c))else .unk)else .ptr o' sz' i c
 | .ag cs=> .ag (PV.frzL o sz l cs)
 | .tup cs=> .tup (PV.frzL o sz l cs)
 | .fn f cs=> .fn f (PV.frzL o sz l cs)
 | .d x=> .d x
 | .nilS=> .nilS
 | .z0=> .z0
 | .unk=> .unk
 | .und=> .und
 | .ab=> .ab
 | .mp o'=>if o'=o then .unk else .mp o'
 | .ifp T o'=>if o'=o then .unk else .ifp T o'
def PV.frzL (o sz:Nat)(l:List D):List PV->List PV
 |[]=>[]
 |c::cs=>PV.frz o sz l c::PV.frzL o sz l cs
end
def Ob.frz (o sz:Nat)(l:List D):Ob->Ob
 | .cells cs=> .cells (PV.frzL o sz l cs)
 | .dead=> .dead
 | .gone=> .gone
 | .row sz l=> .row sz l
 | .imap l=> .imap l
 | .iter m k sn=>if m=o then .gone else .iter m k sn
def ZnH (o sz:Nat)(l:List D)(env:Nat->PV):Nat->PV:=λ i=>(env i).frz o sz l
def Zg2 (o sz:Nat)(l:List D)(objs:Nat->Ob):Nat->Ob:=λ i=>(objs i).frz o sz l
theorem ZyT (o sz:Nat)(l:List D)(env:Nat->PV)(i:Nat):ZnH o sz l env i=(env i).frz o sz l:=rfl
theorem Zgt (o sz:Nat)(l:List D)(objs:Nat->Ob)(i:Nat):Zg2 o sz l objs i=(objs i).frz o sz l:=rfl
structure Eff where
 val:PV
 wr:List (Nat×Ob):=[]
 rd:List Nat:=[]
instance : Inhabited Eff:=⟨{val:= .unk}⟩
abbrev Eff.v (x:PV):Eff:={val:=x}
def wrs :List (Nat×Ob)->(Nat->Ob)->Nat->Ob
 |[],objs=>objs
 |(o,ob)::r,objs=>upd o ob (wrs r objs)
def St.app (S:St)(dst:Option Nat)(e:Eff):St:=
 {env:=match dst with|some t=>upd t e.val S.env|none=>S.env
  objs:=wrs e.wr S.objs}
instance : Inhabited D:=⟨.sc default⟩
instance : Inhabited PV:=⟨.unk⟩
abbrev CE :=Prop×Eff
abbrev CE.no :CE:=(False,{val:= .unk})
abbrev CE.v (x:PV):CE:=(True,{val:=x})
def PV.asD :PV->Option D
 | .d x=>some x
 | .nilS=>some (.sl [])
 | .z0=>some (.sl [])
 | .ref .. =>none
 | .ptr .. =>none
 | .ag _=>none
 | .tup _=>none
 | .fn _ _=>none
 | .unk=>none
 | .und=>none
 | .ab=>none
 | .mp _=>none
 | .ifp _ _=>none
def ldD (ty:TyI)(cs:List D):Prop×D:=
 if ty.agg then(ty.size<=cs.length, .ag (cs.take ty.size))else match cs with
  |x::_=>(True,x)
  |[]=>(False,default)
def ldP (ty:TyI)(cs:List PV):Prop×PV:=
 if ty.agg then(ty.size<=cs.length, .ag (cs.take ty.size))else match cs with
  |x::_=>(True,x)
  |[]=>(False,default)
def Zfy (ty:TyI)(ob:Ob)(sz i c:Nat):Prop×PV:=
 match ob with
 | .cells cs=>((ldP ty (cs.drop (i*sz+c))).1,(ldP ty (cs.drop (i*sz+c))).2)
 | .row sz' l=>(sz=sz'/\i<l.length/\(ldD ty ((l[i]?.getD default).cells.drop c)).1, .d (ldD ty ((l[i]?.getD default).cells.drop c)).2)
 | .dead=>(False, .unk)
 | .gone=>(False, .unk)
 | .imap _=>(False, .unk)
 | .iter _ _ _=>(False, .unk)
def mkD (like:D)(cs:List D):D:=
 match like with
 | .ag _=> .ag cs
 |_=>match cs with|[x]=>x|_=> .ag cs
def ZkB (ob:Ob)(sz i c:Nat)(vs:List PV):Prop×Ob:=
 match ob with
 | .cells cs=>(i*sz+c+vs.length<=cs.length, .cells (ZbX cs (i*sz+c) vs))
 | .row sz' l=>match vs.mapM PV.asD with
  |some ds=>(sz=sz'/\i<l.length/\c+ds.length<=(l[i]?.getD default).cells.length, .row sz' (l.set i (mkD (l[i]?.getD default) (ZbX (l[i]?.getD default).cells c ds))))
  |none=>(False, .dead)
 | .dead=>(False, .dead)
 | .gone=>(False, .gone)
 | .imap _=>(False, .dead)
 | .iter _ _ _=>(False, .dead)
def Zbg :List (Int×Int)->Int->Int
 |[],_=>0
 |(a,b)::r,k=>if a=k then b else Zbg r k
def Zeg :List (Int×Int)->Int->Int->List (Int×Int)
 |[],k,v=>[(k,v)]
 |(a,b)::r,k,v=>if a=k then(k,v)::r else(a,b)::Zeg r k v
def ZiU (pl:Nat->Option (Nat×Nat))(cells:List PV):List (Nat×PV)->Option (List PV)
 |[]=>some cells
 |(i,x)::rest=>
  match pl i,x.cells? with
  |some (off,sz),some cs=>if cs.length=sz/\off+sz<=cells.length then ZiU pl (ZbX cells off cs) rest else none
  |_,_=>none
def D.notTup :D->Bool
 | .tup _=>false
 |_=>true
def Zgr (sz:Nat):List D->List (Nat×Option D)->Option (List D)
 |l,[]=>some l
 |l,(i,some d)::r=>if i<l.length/\d.cells.length=sz/\d.notTup=true then Zgr sz (l.set i d) r else none
 |_,(_,none)::_=>none
def ZeZ (op:BinOp)(a b:Int):Prop×Value:=
 match op with
 | .add=>(True, .int .i64 (IntKind.i64.wrap (a+b)))
 | .sub=>(True, .int .i64 (IntKind.i64.wrap (a-b)))
 | .mul=>(True, .int .i64 (IntKind.i64.wrap (a*b)))
 | .quo=>(b≠0, .int .i64 (IntKind.i64.wrap (a.tdiv b)))
 | .rem=>(b≠0, .int .i64 (a.tmod b))
 | .shl=>(0<=b, .int .i64 (IntKind.i64.wrap (a*2^(min b.toNat 64))))
 | .shr=>(0<=b, .int .i64 (a.fdiv (2^(min b.toNat 64))))
 | .and=>(True, .int .i64 (IntKind.i64.wrap ((BitVec.ofInt 64 a&&&BitVec.ofInt 64 b).toNat:Int)))
 | .or=>(True, .int .i64 (IntKind.i64.wrap ((BitVec.ofInt 64 a|||BitVec.ofInt 64 b).toNat:Int)))
 | .xor=>(True, .int .i64 (IntKind.i64.wrap ((BitVec.ofInt 64 a^^^BitVec.ofInt 64 b).toNat:Int)))
 | .andNot=>(True, .int .i64 (IntKind.i64.wrap ((BitVec.ofInt 64 a&&&~~~BitVec.ofInt 64 b).toNat:Int)))
 | .eql=>(True, .bool (decide (a=b)))
 | .neq=>(True, .bool (!decide (a=b)))
 | .lss=>(True, .bool (decide (a<b)))
 | .leq=>(True, .bool (decide (a<=b)))
 | .gtr=>(True, .bool (decide (b<a)))
 | .geq=>(True, .bool (decide (b<=a)))
def Ze0 (op:BinOp)(a b:Int):Prop×Value:=
 match op with
 | .add=>(True, .int .u64 (IntKind.u64.wrap (a+b)))
 | .sub=>(True, .int .u64 (IntKind.u64.wrap (a-b)))
 | .mul=>(True, .int .u64 (IntKind.u64.wrap (a*b)))
 | .quo=>(False, .int .u64 0)
 | .rem=>(False, .int .u64 0)
 | .shl=>(0<=b, .int .u64 (IntKind.u64.wrap (a*2^(min b.toNat 64))))
 | .shr=>(0<=b, .int .u64 (a.fdiv (2^(min b.toNat 64))))
 | .and=>(True, .int .u64 (IntKind.u64.wrap ((BitVec.ofInt 64 a&&&BitVec.ofInt 64 b).toNat:Int)))
 | .or=>(True, .int .u64 (IntKind.u64.wrap ((BitVec.ofInt 64 a|||BitVec.ofInt 64 b).toNat:Int)))
 | .xor=>(True, .int .u64 (IntKind.u64.wrap ((BitVec.ofInt 64 a^^^BitVec.ofInt 64 b).toNat:Int)))
 | .andNot=>(True, .int .u64 (IntKind.u64.wrap ((BitVec.ofInt 64 a&&&~~~BitVec.ofInt 64 b).toNat:Int)))
 | .eql=>(True, .bool (decide (a=b)))
 | .neq=>(True, .bool (!decide (a=b)))
 | .lss=>(True, .bool (decide (a<b)))
 | .leq=>(True, .bool (decide (a<=b)))
 | .gtr=>(True, .bool (decide (b<a)))
 | .geq=>(True, .bool (decide (b<=a)))
def ZfU :List PV->List PV->Option Bool
 |[],[]=>some true
 | .d (.sc (.int .i64 a))::r, .d (.sc (.int .i64 b))::s=>(ZfU r s).map (decide (a=b)&&·)
 |_,_=>none
def PV.agg? :PV->Option (List PV)
 | .ag cs=>some cs
 | .d (.ag cs)=>some (cs.map .d)
 |_=>none
def ZdC :PV->Option Nat
 | .d (.sl l)=>some l.length
 | .ref _ _ _ len _=>some len
 | .nilS=>some 0
 | .z0=>some 0
 |_=>none
end Go.PS
