/- Short names of library theorems that are used often. -/
import Derived.WalkKit
set_option linter.unusedSimpArgs false
set_option linter.unusedVariables false
set_option maxHeartbeats 16000000
namespace Go
abbrev uA.{u}:= @List.mem_of_getElem?.{u}
abbrev uB.{u}:= @List.getElem?_eq_some_iff.{u}
abbrev uC.{u}:= @List.length_append.{u}
abbrev uD.{u}:= @List.take_of_length_le.{u}
abbrev uE.{u,v}:= @List.length_map.{u,v}
abbrev uF := @Nat.lt_or_ge
abbrev uG := @decide_eq_true_eq
abbrev uH := @Nat.le_refl
abbrev uI.{u,v}:= @List.getElem?_map.{u,v}
abbrev uJ := @Nat.zero_le
abbrev uK.{u}:= @List.forall_mem_cons.{u}
abbrev uL.{u}:= @List.getElem?_eq_getElem.{u}
abbrev uM.{u}:= @List.mem_cons_of_mem.{u}
abbrev uN.{u,v}:= @List.mem_map.{u,v}
abbrev uO := @Bool.and_eq_true
abbrev uP.{u}:= @List.getElem?_eq_none.{u}
abbrev uQ := @Int.toNat_natCast
abbrev uR.{u}:= @List.mem_singleton.{u}
abbrev uS.{u}:= @List.length_take.{u}
abbrev uT.{u}:= @Array.getElem?_eq_getElem.{u}
abbrev uU := @Nat.le_of_ble_eq_true
abbrev uV.{u}:= @List.length_cons.{u}
abbrev uW.{u}:= @List.all_eq_true.{u}
abbrev uX.{u,v}:= @List.map_cons.{u,v}
abbrev uY.{u}:= @List.length_nil.{u}
abbrev uZ.{u}:= @Option.some.injEq.{u}
abbrev yA.{u}:= @List.forall_mem_nil.{u}
abbrev yB.{u,v}:= @List.map_append.{u,v}
abbrev yC := @decide_eq_false
abbrev yD := @List.mem_range
abbrev yE.{u,v}:= @List.map_congr_left.{u,v}
abbrev yF := @Nat.mul_le_mul_right
abbrev yH.{u}:= @List.mem_cons.{u}
abbrev yI.{u}:= @List.take_length.{u}
abbrev yJ.{u}:= @List.contains_eq_mem.{u}
abbrev yK := @Bool.not_eq_true'
abbrev yL.{u}:= @List.length_set.{u}
abbrev yM := @decide_eq_true
abbrev yN.{u}:= @List.mem_append.{u}
abbrev yO.{u}:= @List.append_nil.{u}
abbrev yP.{u}:= @List.append_assoc.{u}
abbrev yQ.{u}:= @Option.getD_some.{u}
abbrev yR.{u,v}:= @List.map_set.{u,v}
abbrev yS.{u}:= @List.nodup_cons.{u}
abbrev yT.{u,v}:= @List.map_nil.{u,v}
abbrev yU.{u}:= @List.take_append_drop.{u}
abbrev yV.{u,v}:= @Option.map_some.{u,v}
abbrev yW.{u}:= @List.getElem?_of_mem.{u}
abbrev yX.{u}:= @List.pairwise_append.{u}
abbrev yY.{u}:= @List.take_zero.{u}
abbrev yZ.{u}:= @List.getElem?_append_right.{u}
abbrev qA.{u}:= @List.append_eq.{u}
abbrev qB := @Bool.false_eq_true
abbrev qC.{u}:= @List.getElem?_take.{u}
abbrev qD.{u}:= @List.getElem?_set.{u}
abbrev qE := @Nat.add_mul
abbrev qF.{u}:= @List.eq_nil_of_length_eq_zero.{u}
abbrev qG.{u}:= @Array.getD_eq_getD_getElem?.{u}
abbrev qH.{u}:= @List.getElem?_append_left.{u}
abbrev qI := @Int.natCast_add
abbrev qJ := @decide_eq_false_iff_not
abbrev qK.{u}:= @List.mem_reverse.{u}
abbrev qL.{u}:= @List.ext_getElem?.{u}
abbrev qM.{u}:= @Array.getElem?_toList.{u}
abbrev qN.{u}:= @List.length_singleton.{u}
abbrev qO := @Nat.zero_add
abbrev qP.{u}:= @List.length_drop.{u}
abbrev qQ := @List.getElem?_range
abbrev qR.{u}:= @List.mem_of_mem_take.{u}
abbrev qS.{u}:= @List.drop_zero.{u}
abbrev qT := @Nat.eq_zero_or_pos
abbrev qU.{u}:= @List.any_eq_false.{u}
abbrev qV.{u}:= @List.length_replicate.{u}
abbrev qW.{u,v}:= @congrArg.{u,v}
abbrev qX.{u}:= @Array.getElem?_eq_some_iff.{u}
abbrev qY := @Bool.or_eq_true
abbrev qZ.{u}:= @List.getElem?_drop.{u}
abbrev gA := @Nat.lt_succ_iff_lt_or_eq
abbrev gB := @Nat.lt_of_lt_of_le
abbrev gC := @Int.le_refl
abbrev gE.{u,v}:= @List.flatMap_cons.{u,v}
abbrev gF.{u}:= @List.nil_append.{u}
abbrev gG := @List.range_succ
abbrev gH := @Nat.add_zero
abbrev gI.{u}:= @List.getElem?_replicate.{u}
abbrev gJ.{u}:= @Array.getElem?_append.{u}
abbrev gK := @Bool.eq_iff_iff
abbrev gL.{u}:= @List.drop_eq_getElem_cons.{u}
abbrev gM := @Classical.byContradiction
abbrev gN.{u,v,w}:= @List.map_map.{u,v,w}
abbrev gO.{u}:= @List.any_eq_true.{u}
abbrev gP := @Int.natCast_one
abbrev gQ.{u}:= @Array.mem_of_getElem?.{u}
abbrev gR := @Nat.le_trans
abbrev gS.{u}:= @List.mem_of_mem_drop.{u}
abbrev gT.{u}:= @List.getElem?_append.{u}
abbrev gU := @Decidable.em
abbrev gV.{u}:= @List.nodup_append.{u}
abbrev gW.{u}:= @List.drop_of_length_le.{u}
abbrev gX.{u}:= @List.filter_append.{u}
abbrev gY.{u}:= @List.pairwise_flatten.{u}
abbrev gZ := @Nat.sub_self
abbrev jA := @Nat.min_eq_left
abbrev jB.{u,v}:= @List.foldl_cons.{u,v}
abbrev jC.{u}:= @List.getD_eq_getElem?_getD.{u}
abbrev jD.{u}:= @List.sum_cons.{u}
abbrev jE.{u}:= @if_false.{u}
abbrev jF.{u}:= @List.findIdx?_cons.{u}
abbrev jG.{u}:= @List.pairwise_cons.{u}
abbrev jH.{u}:= @Array.all_eq_true_iff_forall_mem.{u}
abbrev jI := @Nat.zero_mul
abbrev jJ.{u}:= @List.idxOf_lt_length_of_mem.{u}
abbrev jK.{u}:= @List.take_sublist.{u}
abbrev jL := @Nat.add_assoc
abbrev jM.{u}:= @List.cons_append.{u}
abbrev jN.{u}:= @List.getElem_mem.{u}
abbrev jO.{u}:= @List.pairwise_iff_getElem.{u}
abbrev jP.{u,v}:= @List.mem_map_of_mem.{u,v}
abbrev jQ := @Nat.mul_one
abbrev jR.{u}:= @List.mem_iff_getElem?.{u}
abbrev jS.{u}:= @List.length_filter_le.{u}
abbrev jT.{u,v,w}:= @List.mapM_cons.{u,v,w}
abbrev jU := @Int.add_zero
abbrev jV.{u}:= @List.set_cons_zero.{u}
abbrev jW.{u}:= @List.getElem?_cons_succ.{u}
abbrev jX.{u}:= @List.length_eq_zero_iff.{u}
abbrev jY.{u}:= @List.pairwise_singleton.{u}
abbrev jZ.{u}:= @List.drop_eq_nil_of_le.{u}
abbrev kA.{u}:= @List.size_toArray.{u}
abbrev kB.{u}:= @List.flatten_cons.{u}
abbrev kC := @List.range_zero
abbrev kD.{u}:= @List.mem_or_eq_of_mem_set.{u}
abbrev kH.{u}:= @List.getElem?_toArray.{u}
abbrev kI.{u}:= @List.not_mem_nil.{u}
abbrev kJ.{u,v}:= @List.mem_flatMap.{u,v}
abbrev kK := @Bool.true_and
abbrev kL.{u}:= @List.getElem?_set_ne.{u}
abbrev kQ := @Nat.pow_le_pow_right
abbrev kS := @List.length_range
abbrev kT.{u}:= @List.drop_sublist.{u}
abbrev kU.{u}:= @List.replicate_succ.{u}
abbrev kV.{u}:= @List.append_toArray.{u}
abbrev kW.{u}:= @List.getElem?_set_self.{u}
abbrev kX := @List.pairwise_lt_range
abbrev kY := @Nat.sub_zero
abbrev kZ := @Nat.testBit_lt_two_pow
abbrev zA := @Int.add_assoc
abbrev zB.{u}:= @List.filter_cons.{u}
abbrev zC.{u}:= @List.perm_middle.{u}
abbrev zD.{u}:= @beq_iff_eq.{u}
abbrev zE.{u,v}:= @Array.getElem?_map.{u,v}
abbrev zF := @Nat.mul_le_mul
abbrev zG.{u}:= @Array.getElem?_append_left.{u}
abbrev zH.{u}:= @List.Perm.refl.{u}
abbrev zI.{u,v}:= @List.map_replicate.{u,v}
abbrev zJ.{u}:= @List.eq_replicate_iff.{u}
abbrev zK.{u}:= @List.filter_nil.{u}
abbrev zL := @Nat.not_lt_zero
abbrev zM.{u}:= @Array.replicate_succ.{u}
abbrev zN.{u}:= @Array.replicate_zero.{u}
abbrev zO.{u}:= @List.eq_of_mem_replicate.{u}
abbrev zP.{u}:= @List.length_erase_of_mem.{u}
abbrev zQ.{u}:= @Array.getElem?_setIfInBounds_ne.{u}
abbrev zR.{u}:= @List.flatten_append.{u}
abbrev zS.{u}:= @List.length_pos_iff.{u}
abbrev zT := @List.nodup_range
abbrev zU := @Int.mul_le_mul_of_nonneg_right
abbrev zV := @Nat.add_sub_cancel_left
abbrev zW := @Int.mul_add
abbrev zX.{u}:= @List.set_cons_succ.{u}
abbrev zY := @Nat.add_sub_cancel
abbrev zZ := @Bool.false_ne_true
abbrev Aa.{u}:= @List.mem_filter.{u}
abbrev Ab.{u}:= @Array.getElem?_setIfInBounds.{u}
abbrev Ac.{u,v}:= @List.map_take.{u,v}
abbrev Ad.{u}:= @List.push_toArray.{u}
abbrev Ae.{u}:= @Array.getElem?_setIfInBounds_self_of_lt.{u}
abbrev Af.{u}:= @List.perm_ext_iff_of_nodup.{u}
abbrev Ag := @Nat.eq_of_testBit_eq
abbrev Ah := @Nat.pow_lt_pow_right
abbrev Ai.{u,v}:= @List.flatMap_nil.{u,v}
abbrev Aj.{u}:= @List.isEmpty_iff.{u}
abbrev Ak := @Int.le_trans
abbrev Al.{u}:= @List.mem_flatten.{u}
abbrev Am.{u}:= @Array.length_toList.{u}
abbrev An.{u}:= @List.getElem?_take_of_lt.{u}
abbrev Ao.{u}:= @List.Perm.eq_of_pairwise.{u}
abbrev Ap := @Int.mul_assoc
abbrev Aq.{u,v}:= @Option.map_none.{u,v}
abbrev Ar := @Bool.not_eq_false'
abbrev As.{u}:= @List.getElem?_cons_zero.{u}
abbrev Au.{u,v}:= @List.flatMap_eq_nil_iff.{u,v}
abbrev Av.{u}:= @List.nodup_nil.{u}
abbrev Aw := @Nat.lt_trichotomy
abbrev Ax := @Bool.eq_false_iff
abbrev Ay.{u}:= @List.length_pos_of_mem.{u}
abbrev Az := @Int.lt_or_le
abbrev Ba.{u}:= @List.mem_append_right.{u}
abbrev Bb.{u}:= @List.eq_nil_or_concat.{u}
abbrev Bc.{u}:= @List.concat_eq_append.{u}
abbrev Be := @Nat.zero_testBit
abbrev Bg.{u}:= @List.flatten_nil.{u}
abbrev Bh.{u}:= @List.take_nil.{u}
abbrev Bi.{u,v}:= @Prod.mk.injEq.{u,v}
abbrev Bj.{u}:= @List.mem_append_left.{u}
abbrev Bk.{u}:= @List.idxOf_cons_self.{u}
abbrev Bl.{u}:= @List.mem_erase_of_ne.{u}
abbrev Bm.{u}:= @List.sum_append.{u}
abbrev Bo.{u}:= @List.set_append.{u}
abbrev Bp.{u}:= @List.take_succ_cons.{u}
abbrev Bq.{u}:= @List.drop_succ_cons.{u}
abbrev Br.{u}:= @List.replicate_zero.{u}
abbrev Bt.{u}:= @List.filter_eq_self.{u}
abbrev Bu := @decide_false
abbrev Bv := @Nat.mul_comm
abbrev Bw := @Nat.testBit_two_pow_sub_one
abbrev Bx := @and_self
abbrev By.{u}:= @bne_iff_ne.{u}
abbrev Bz.{u,v}:= @List.foldl_nil.{u,v}
abbrev Ca.{u}:= @List.getElem_idxOf.{u}
abbrev Cb := @Int.add_sub_cancel
abbrev Cc := @Int.fdiv_eq_ediv_of_nonneg
abbrev Cd := @decide_true
abbrev Ce := @Classical.not_not
abbrev Cf.{u}:= @List.drop_nil.{u}
abbrev Cg := @Nat.mod_eq_of_lt
abbrev Ch := @Int.mul_zero
abbrev Ci := @Nat.ne_of_lt
abbrev Cj := @Bool.not_false
abbrev Ck := @Bool.false_and
abbrev Cm := @Nat.lt_add_one
abbrev Cn := @Nat.mod_lt
end Go
namespace Go.PS
open Go
inductive D where
 |sc (v:Value)
 |ag (cs:List D)
 |sl (l:List D)
 |tup (vs:List D)
 |pt (cs:List D)
 |fn (f:FuncId) (caps:List D)
def D.cells :D->List D
 | .ag cs=>cs
 | .sc v=>[.sc v]
 | .sl l=>[.sl l]
 | .tup vs=>[.tup vs]
 | .pt cs=>[.pt cs]
 | .fn f caps=>[.fn f caps]
abbrev D.int (n:Int):D:= .sc (.int .i64 n)
abbrev D.bool (b:Bool):D:= .sc (.bool b)
inductive PV where
 |d (x:D)
 |ref (o sz off len cap:Nat)
 |ptr (o sz i c:Nat)
 |nilS
 |z0
 |ag (cs:List PV)
 |tup (vs:List PV)
 |fn (f:FuncId) (caps:List PV)
 |unk
 |und
 |ab
 |mp (o:Nat)
 |ifp (T o:Nat)
abbrev PV.int (n:Int):PV:= .d (.sc (.int .i64 n))
abbrev PV.bool (b:Bool):PV:= .d (.sc (.bool b))
inductive Ob where
 |dead
 |gone
 |cells (cs:List PV)
 |row (sz:Nat) (l:List D)
 |imap (l:List (Int×Int))
 |iter (m k:Nat) (sn:List Nat)
structure St where
 env:Nat->PV
 objs:Nat->Ob
def upd {α:Type}(i:Nat)(x:α)(f:Nat->α):Nat->α:=λ j=>if j=i then x else f j
def ZeN :Value->PV
 | .slice none 0 0=> .nilS
 |v=> .d (.sc v)
def Zth :Value->PV
 | .agg cs=> .ag (cs.toList.map ZeN)
 |v=>ZeN v
def St.ev (S:St):Operand->PV
 | .tmp t=>S.env t
 | .const v=>Zth v
 | .global _=> .unk
 | .func f=> .d (.fn f [])
def PV.cells? :PV->Option (List PV)
 | .d (.tup _)=>none
 | .d x=>some (x.cells.map .d)
 | .ag cs=>some cs
 | .tup _=>none
 | .unk=>none
 | .und=>none
 | .ab=>none
 | .ref o sz off len cap=>some [.ref o sz off len cap]
 | .ptr o sz i c=>some [.ptr o sz i c]
 | .nilS=>some [.nilS]
 | .z0=>some [.z0]
 | .fn f caps=>some [.fn f caps]
 | .mp o=>some [.mp o]
 | .ifp T o=>some [.ifp T o]
structure TyI where
 size:Nat
 agg:Bool
 zero:List Value
 elem:TypeId
 len:Nat
 kind:Nat
 fields:List (Nat×TypeId)
 bytes:Nat
 ok:Bool
 zok:Bool
 peq:Bool
 places:List (Nat×Nat)
 bok:Bool
 bk:Bool
def ZiI (P:Program):Nat->List Field->Bool
 |_,[]=>true
 |n,f::fs=>f.name != "_" &&f.offset==n&&(match P.underlying f.type with|some (.int _)=>true|_=>false)&&ZiI P (n+1) fs
def Zpi (P:Program)(k e:TypeId):Bool:=
 (match P.underlying k with|some (.int .i64)=>true|_=>false)&&(match P.info? e with|some i=>(match i.zero with|some (.int .i64 0)=>true|_=>false)|none=>false)
def tyi (P:Program)(t:TypeId):TyI:=
 {size:=P.cellsOf t
  agg:=match P.underlying t with|some (.struct _)=>true|some (.array _ _)=>true|_=>false
  zero:=match P.info? t with|some i=>(match i.zero with|some z=>z.cells.toList|none=>[])|none=>[]
  elem:=match P.underlying t with|some (.slice e)=>e|some (.array _ e)=>e|some (.pointer e)=>e|_=>0
  len:=match P.underlying t with|some (.array n _)=>n|_=>0
  kind:=match P.underlying t with|some (.slice _)=>1|some (.array _ _)=>2|some (.struct _)=>3|some (.pointer _)=>4|some .bool=>6|some (.int _)=>5|some .string=>8|some (.map k e)=>(if Zpi P k e=true then 7 else 0)|_=>0
  fields:=match P.underlying t with|some (.struct fs)=>fs.toList.map λ f=>(f.offset,f.type)|_=>[]
  bytes:=P.bytesOf t
  ok:=(P.underlying t).isSome
  zok:=match P.info? t with|some i=>(match i.zero with|some z=>z.cells.size==P.cellsOf t&&z.cells.all Value.oneCell'&&P.cellsOf t != 0&&(P.cellsOf t==1||(match P.underlying t with|some (.struct _)=>true|some (.array _ _)=>true|_=>false))|none=>false)|none=>false
  peq:=match P.underlying t with|some (.struct fs)=>ZiI P 0 fs.toList&& !P.stoodInHeld t&& !P.eqGuardType P.depth t&&fs.size==P.cellsOf t|_=>false
  places:=match P.underlying t with|some (.struct fs)=>((fs.toList.mapM λ f=>(P.info? f.type).map λ i=>(f.offset,i.size)).getD [])|_=>[]
  bok:=match P.underlying t with|some (.struct fs)=>(fs.toList.mapM λ f=>(P.info? f.type).map λ i=>(f.offset,i.size)).isSome|_=>false
  bk:=match P.underlying t with|some (.int .u8)=>true|_=>false}
def ZbE {α:Type}(cs:List α)(off:Nat)(xs:List α):List α:=cs.take off++xs++cs.drop (off+xs.length)
def toD (objs:Nat->Ob):Nat->PV->Option D
 |0,_=>none
 |_+1, .d x=>some x
 |_+1, .nilS=>some (.sl [])
 |_+1, .z0=>some (.sl [])
 |_+1, .unk=>none
 |_+1, .und=>none
 |_+1, .ab=>none
 |_+1, .mp _=>none
 |_+1, .ifp _ _=>none
 |n+1, .ref o sz off len _=>match objs o with
  | .row sz' l=>if sz=sz'/\off+len<=l.length then some (.sl ((l.drop off).take len))else none
  | .cells cs=>if sz=1/\off+len<=cs.length then(((cs.drop off).take len).mapM (toD objs n)).map .sl else none
  |_=>none
 |n+1, .ptr o _ i c=>match objs o with
  | .cells cs=>if i=0/\c=0 then((cs.mapM (toD objs n)).map .pt)else none
  |_=>none
 |n+1, .ag cs=>(cs.mapM (toD objs n)).map .ag
 |n+1, .tup cs=>(cs.mapM (toD objs n)).map .tup
 |n+1, .fn f cs=>(cs.mapM (toD objs n)).map (.fn f)
def PV.refs (objs:Nat->Ob):Nat->PV->List Nat
 |0,_=>[]
 |n+1, .ref o _ off len _=>match objs o with
  | .cells cs=>o::((cs.drop off).take len).flatMap (PV.refs objs n)
  |_=>[o]
 |n+1, .ptr o _ _ _=>match objs o with
  | .cells cs=>o::cs.flatMap (PV.refs objs n)
  |_=>[o]
 |n+1, .ag cs=>cs.flatMap (PV.refs objs n)
 |n+1, .tup cs=>cs.flatMap (PV.refs objs n)
 |n+1, .fn _ cs=>cs.flatMap (PV.refs objs n)
 |_+1, .d _=>[]
 |_+1, .nilS=>[]
 |_+1, .z0=>[]
 |_+1, .unk=>[]
 |_+1, .und=>[]
 |_+1, .ab=>[]
 |_+1, .mp o=>[o]
 |_+1, .ifp _ o=>[o]
def D.flat :Nat->D->Bool
 |0,_=>false
 |n+1,x=>
  match x with
  | .sc _=>true
  | .ag cs| .tup cs=>cs.all (D.flat n)
  | .sl l=>l.isEmpty
  |_=>false
mutual
def PV.frz (o sz:Nat)(l:List D):PV->PV
 | .ref o' sz' off len cap=>if o'=o then(if sz'=sz/\off+len<=l.length then .d (.sl ((l.drop off).take len))else .unk)else .ref o' sz' off len cap
 | .ptr o' sz' i c=>if o'=o then(if sz'=sz/\i<l.length then .d (.pt ((l[i]?.getD (.sc undef)).cells.drop c))else .unk)else .ptr o' sz' i c
 | .ag cs=> .ag (PV.frzL o sz l cs)
 | .tup cs=> .tup (PV.frzL o sz l cs)
 | .fn f cs=> .fn f (PV.frzL o sz l cs)
 | .d x=> .d x
 | .nilS=> .nilS
 | .z0=> .z0
 | .unk=> .unk
 | .und=> .und
 | .ab=> .ab
 | .mp o'=>if o'=o then .unk else .mp o'
 | .ifp T o'=>if o'=o then .unk else .ifp T o'
def PV.frzL (o sz:Nat)(l:List D):List PV->List PV
 |[]=>[]
 |c::cs=>PV.frz o sz l c::PV.frzL o sz l cs
end
def Ob.frz (o sz:Nat)(l:List D):Ob->Ob
 | .cells cs=> .cells (PV.frzL o sz l cs)
 | .dead=> .dead
 | .gone=> .gone
 | .row sz l=> .row sz l
 | .imap l=> .imap l
 | .iter m k sn=>if m=o then .gone else .iter m k sn
def Zlm (o sz:Nat)(l:List D)(env:Nat->PV):Nat->PV:=λ i=>(env i).frz o sz l
def ZfO (o sz:Nat)(l:List D)(objs:Nat->Ob):Nat->Ob:=λ i=>(objs i).frz o sz l
theorem Zub (o sz:Nat)(l:List D)(env:Nat->PV)(i:Nat):Zlm o sz l env i=(env i).frz o sz l:=rfl
theorem Zfi (o sz:Nat)(l:List D)(objs:Nat->Ob)(i:Nat):ZfO o sz l objs i=(objs i).frz o sz l:=rfl
structure Eff where
 val:PV
 wr:List (Nat×Ob):=[]
 rd:List Nat:=[]
instance : Inhabited Eff:=⟨{val:= .unk}⟩
abbrev Eff.v (x:PV):Eff:={val:=x}
def wrs :List (Nat×Ob)->(Nat->Ob)->Nat->Ob
 |[],objs=>objs
 |(o,ob)::r,objs=>upd o ob (wrs r objs)
def St.app (S:St)(dst:Option Nat)(e:Eff):St:=
 {env:=match dst with|some t=>upd t e.val S.env|none=>S.env
  objs:=wrs e.wr S.objs}
instance : Inhabited D:=⟨.sc default⟩
instance : Inhabited PV:=⟨.unk⟩
abbrev CE :=Prop×Eff
abbrev CE.no :CE:=(False,{val:= .unk})
abbrev CE.v (x:PV):CE:=(True,{val:=x})
def PV.asD :PV->Option D
 | .d x=>some x
 | .nilS=>some (.sl [])
 | .z0=>some (.sl [])
 | .ref .. =>none
 | .ptr .. =>none
 | .ag _=>none
 | .tup _=>none
 | .fn _ _=>none
 | .unk=>none
 | .und=>none
 | .ab=>none
 | .mp _=>none
 | .ifp _ _=>none
def ldD (ty:TyI)(cs:List D):Prop×D:=
 if ty.agg then(ty.size<=cs.length, .ag (cs.take ty.size))else match cs with
  |x::_=>(True,x)
  |[]=>(False,default)
def ldP (ty:TyI)(cs:List PV):Prop×PV:=
 if ty.agg then(ty.size<=cs.length, .ag (cs.take ty.size))else match cs with
  |x::_=>(True,x)
  |[]=>(False,default)
def Zev (ty:TyI)(ob:Ob)(sz i c:Nat):Prop×PV:=
 match ob with
 | .cells cs=>((ldP ty (cs.drop (i*sz+c))).1,(ldP ty (cs.drop (i*sz+c))).2)
 | .row sz' l=>(sz=sz'/\i<l.length/\(ldD ty ((l[i]?.getD default).cells.drop c)).1, .d (ldD ty ((l[i]?.getD default).cells.drop c)).2)
 | .dead=>(False, .unk)
 | .gone=>(False, .unk)
 | .imap _=>(False, .unk)
 | .iter _ _ _=>(False, .unk)
def mkD (like:D)(cs:List D):D:=
 match like with
 | .ag _=> .ag cs
 |_=>match cs with|[x]=>x|_=> .ag cs
def ZiR (ob:Ob)(sz i c:Nat)(vs:List PV):Prop×Ob:=
 match ob with
 | .cells cs=>(i*sz+c+vs.length<=cs.length, .cells (ZbE cs (i*sz+c) vs))
 | .row sz' l=>match vs.mapM PV.asD with
  |some ds=>(sz=sz'/\i<l.length/\c+ds.length<=(l[i]?.getD default).cells.length, .row sz' (l.set i (mkD (l[i]?.getD default) (ZbE (l[i]?.getD default).cells c ds))))
  |none=>(False, .dead)
 | .dead=>(False, .dead)
 | .gone=>(False, .gone)
 | .imap _=>(False, .dead)
 | .iter _ _ _=>(False, .dead)
def Zbp :List (Int×Int)->Int->Int
 |[],_=>0
 |(a,b)::r,k=>if a=k then b else Zbp r k
def Zew :List (Int×Int)->Int->Int->List (Int×Int)
 |[],k,v=>[(k,v)]
 |(a,b)::r,k,v=>if a=k then(k,v)::r else(a,b)::Zew r k v
def Zhj (pl:Nat->Option (Nat×Nat))(cells:List PV):List (Nat×PV)->Option (List PV)
 |[]=>some cells
 |(i,x)::rest=>
  match pl i,x.cells? with
  |some (off,sz),some cs=>if cs.length=sz/\off+sz<=cells.length then Zhj pl (ZbE cells off cs) rest else none
  |_,_=>none
def D.notTup :D->Bool
 | .tup _=>false
 |_=>true
def Zfe (sz:Nat):List D->List (Nat×Option D)->Option (List D)
 |l,[]=>some l
 |l,(i,some d)::r=>if i<l.length/\d.cells.length=sz/\d.notTup=true then Zfe sz (l.set i d) r else none
 |_,(_,none)::_=>none
def Zd0 (op:BinOp)(a b:Int):Prop×Value:=
 match op with
 | .add=>(True, .int .i64 (IntKind.i64.wrap (a+b)))
 | .sub=>(True, .int .i64 (IntKind.i64.wrap (a-b)))
 | .mul=>(True, .int .i64 (IntKind.i64.wrap (a*b)))
 | .quo=>(b≠0, .int .i64 (IntKind.i64.wrap (a.tdiv b)))
 | .rem=>(b≠0, .int .i64 (a.tmod b))
 | .shl=>(0<=b, .int .i64 (IntKind.i64.wrap (a*2^(min b.toNat 64))))
 | .shr=>(0<=b, .int .i64 (a.fdiv (2^(min b.toNat 64))))
 | .and=>(True, .int .i64 (IntKind.i64.wrap ((BitVec.ofInt 64 a&&&BitVec.ofInt 64 b).toNat:Int)))
 | .or=>(True, .int .i64 (IntKind.i64.wrap ((BitVec.ofInt 64 a|||BitVec.ofInt 64 b).toNat:Int)))
 | .xor=>(True, .int .i64 (IntKind.i64.wrap ((BitVec.ofInt 64 a^^^BitVec.ofInt 64 b).toNat:Int)))
 | .andNot=>(True, .int .i64 (IntKind.i64.wrap ((BitVec.ofInt 64 a&&&~~~BitVec.ofInt 64 b).toNat:Int)))
 | .eql=>(True, .bool (decide (a=b)))
 | .neq=>(True, .bool (!decide (a=b)))
 | .lss=>(True, .bool (decide (a<b)))
 | .leq=>(True, .bool (decide (a<=b)))
 | .gtr=>(True, .bool (decide (b<a)))
 | .geq=>(True, .bool (decide (b<=a)))
def Zd1 (op:BinOp)(a b:Int):Prop×Value:=
 match op with
 | .add=>(True, .int .u64 (IntKind.u64.wrap (a+b)))
 | .sub=>(True, .int .u64 (IntKind.u64.wrap (a-b)))
 | .mul=>(True, .int .u64 (IntKind.u64.wrap (a*b)))
 | .quo=>(False, .int .u64 0)
 | .rem=>(False, .int .u64 0)
 | .shl=>(0<=b, .int .u64 (IntKind.u64.wrap (a*2^(min b.toNat 64))))
 | .shr=>(0<=b, .int .u64 (a.fdiv (2^(min b.toNat 64))))
 | .and=>(True, .int .u64 (IntKind.u64.wrap ((BitVec.ofInt 64 a&&&BitVec.ofInt 64 b).toNat:Int)))
 | .or=>(True, .int .u64 (IntKind.u64.wrap ((BitVec.ofInt 64 a|||BitVec.ofInt 64 b).toNat:Int)))
 | .xor=>(True, .int .u64 (IntKind.u64.wrap ((BitVec.ofInt 64 a^^^BitVec.ofInt 64 b).toNat:Int)))
 | .andNot=>(True, .int .u64 (IntKind.u64.wrap ((BitVec.ofInt 64 a&&&~~~BitVec.ofInt 64 b).toNat:Int)))
 | .eql=>(True, .bool (decide (a=b)))
 | .neq=>(True, .bool (!decide (a=b)))
 | .lss=>(True, .bool (decide (a<b)))
 | .leq=>(True, .bool (decide (a<=b)))
 | .gtr=>(True, .bool (decide (b<a)))
 | .geq=>(True, .bool (decide (b<=a)))
def ZeQ :List PV->List PV->Option Bool
 |[],[]=>some true
 | .d (.sc (.int .i64 a))::r, .d (.sc (.int .i64 b))::s=>(ZeQ r s).map (decide (a=b)&&·)
 |_,_=>none
def PV.agg? :PV->Option (List PV)
 | .ag cs=>some cs
 | .d (.ag cs)=>some (cs.map .d)
 |_=>none
def ZcO :PV->Option Nat
 | .d (.sl l)=>some l.length
 | .ref _ _ _ len _=>some len
 | .nilS=>some 0
 | .z0=>some 0
 |_=>none
inductive D.At (w:World)(X:Nat->Prop):D->Value->Prop
 |sc (v:Value) (h:v.oneCell'=true):D.At w X (.sc v) v
 |ag (cs:List D) (arr:Array Value) (hsz:arr.size=cs.length) (hone:∀(j:Nat) (v:Value),arr[j]? =some v->v.oneCell'=true)
  (h:∀(j:Nat) d v,cs[j]? =some d->arr[j]? =some v->D.At w X d v):D.At w X (.ag cs) (.agg arr)
 |slnil (base:Option Addr) (cap:Nat):D.At w X (.sl []) (.slice base 0 cap)
 |sl (l:List D) (b off cap sz:Nat) (hl:l.length<=cap) (hc:cap<=maxLen)
  (hsz:∀d,d∈l->d.cells.length=sz)
  (vals:Nat->Nat->Value)
  (hv:∀(i:Nat) d (j:Nat) c,l[i]? =some d->d.cells[j]? =some c->w.cell? ⟨b,off+i*sz+j,none⟩=some (vals i j)/\(vals i j).oneCell'=true/\¬X b)
  (h:∀(i:Nat) d (j:Nat) c,l[i]? =some d->d.cells[j]? =some c->D.At w X c (vals i j)):
  D.At w X (.sl l) (.slice (some ⟨b,off,none⟩) l.length cap)
 |tup (cs:List D) (arr:Array Value) (hsz:arr.size=cs.length)
  (h:∀(j:Nat) d v,cs[j]? =some d->arr[j]? =some v->D.At w X d v):D.At w X (.tup cs) (.tuple arr)
 |pt (cs:List D) (b off:Nat)
  (vals:Nat->Value)
  (hv:∀(j:Nat) c,cs[j]? =some c->w.cell? ⟨b,off+j,none⟩=some (vals j)/\(vals j).oneCell'=true/\¬X b)
  (h:∀(j:Nat) c,cs[j]? =some c->D.At w X c (vals j)):
  D.At w X (.pt cs) (.pointer (some ⟨b,off,none⟩))
 |fn (f:FuncId) (cs:List D) (arr:Array Value) (hsz:arr.size=cs.length)
  (h:∀(j:Nat) d v,cs[j]? =some d->arr[j]? =some v->D.At w X d v):D.At w X (.fn f cs) (.func (.func f) #[] arr)
def Zgq (w:World)(X:Nat->Prop)(ds:List D)(vs:Array Value):Prop:=
 vs.size=ds.length/\∀(j:Nat) d v,ds[j]? =some d->vs[j]? =some v->D.At w X d v
def ZhR (P:Program)(f:FuncId):Prop:=∃fn,P.funcs[f]? =some fn/\fn.body.isNone=false/\(fn.name== "runtime.NumGoroutine")=false
def Zd3 :List Int:=[0,1,56,2,57,49,28,3,61,58,42,50,38,29,17,4,62,47,59,36,45,43,51,22,53,39,33,30,24,18,12,5,63,55,48,27,60,41,37,16,46,35,44,21,52,32,23,11,54,26,40,15,34,20,31,10,25,14,19,9,13,8,7,6]
def tabs (P:Program):List (Nat×List Int):=match P.globalNamed "math/bits.deBruijn64tab" with
 |some g=>[(g,Zd3)]
 |none=>[]
def ZdX (T:List (Nat×List Int))(w:World)(X:Nat->Prop):Prop:=
 ∀q,q∈T->q.1<w.heap.size/\¬X q.1/\∀(j:Nat) v,q.2[j]? =some v->w.cell? ⟨q.1,j,none⟩=some (.int .u8 v)
def ZeA :List (Nat×List Int)->Nat->List D
 |[],_=>[]
 |(h,l)::r,g=>if h=g then l.map λ v=> .sc (.int .u8 v)else ZeA r g
def Zga (T:List (Nat×List Int))(g:Nat)(ty:TyI)(esz:Nat)(i:PV):CE:=
 match i with
 | .d (.sc (.int .u64 n))=>(ty.kind=2/\esz=1/\0<=n/\n.toNat<ty.len/\n.toNat<(ZeA T g).length, .v (.d (.pt ((ZeA T g).drop n.toNat))))
 |_=> .no
def Zaa (P:Program)(f:FuncId)(args:List D)(r:D):Prop:=
 ZhR P f/\∀(w:World) (X:Nat->Prop) (vs:Array Value),(∀b,X b->b<w.heap.size)->Zgq w X args vs->ZdX (tabs P) w X->
  Calls P f vs w λ e w'=>∃v,e= .returned v/\D.At w' X r v/\RowKit.Below w.heap.size w w'
def roomy (n:Nat):Prop:=n<=1099511627776
def Zbx (objs:Nat->Ob):PV->Option (List D)
 | .d (.sl l)=>some l
 | .nilS=>some []
 | .z0=>some []
 | .ref o sz off len _=>match objs o with
   | .row sz' l=>if sz=sz'/\off+len<=l.length then some ((l.drop off).take len)else none
   |_=>none
 |_=>none
def Zb9 :PV->List Nat
 | .ref o _ _ _ _=>[o]
 |_=>[]
def Zdc (objs:Nat->Ob)(dst:Option Nat)(st xt ety:TyI)(s x:PV):CE:=
 match Zbx objs x,dst with
 |some xs,some t=>
  match s with
  | .ref o sz off len _=>match objs o with
   | .row sz' l=>(st.kind=1/\xt.kind=1/\ety.zok=true/\ety.bytes<=128/\(∀d,d∈xs->d.cells.length=ety.size)/\objs t= .dead/\sz=ety.size/\sz=sz'/\off=0/\len<=l.length/\roomy (len+xs.length),
     {val:= .ref t sz 0 (len+xs.length) (len+xs.length),wr:=[(t, .row sz' (l.take len++xs)),(o, .gone)],rd:=Zb9 x})
   |_=> .no
  | .nilS=>(st.kind=1/\xt.kind=1/\ety.zok=true/\ety.bytes<=128/\(∀d,d∈xs->d.cells.length=ety.size)/\objs t= .dead/\roomy xs.length,
     {val:= .ref t ety.size 0 xs.length xs.length,wr:=[(t, .row ety.size xs)],rd:=Zb9 x})
  | .z0=>(st.kind=1/\xt.kind=1/\ety.zok=true/\ety.bytes<=128/\(∀d,d∈xs->d.cells.length=ety.size)/\objs t= .dead/\roomy xs.length,
     {val:= .ref t ety.size 0 xs.length xs.length,wr:=[(t, .row ety.size xs)],rd:=Zb9 x})
  |_=> .no
 |_,_=> .no
def ZiC :Ob->Option PV
 | .cells [p]=>some p
 | .cells []=>none
 | .cells (_::_::_)=>none
 | .dead=>none
 | .gone=>none
 | .row _ _=>none
 | .imap _=>none
 | .iter _ _ _=>none
def Zdg (objs:Nat->Ob):PV->Option (PV×Nat)
 | .ref o sz off len _=>match ZiC (objs o)with
  |some p=>if sz=1/\off=0/\len=1 then some (p,o)else none
  |none=>none
 | .d _=>none
 | .ptr _ _ _ _=>none
 | .nilS=>none
 | .z0=>none
 | .ag _=>none
 | .tup _=>none
 | .fn _ _=>none
 | .unk=>none
 | .und=>none
 | .ab=>none
 | .mp _=>none
 | .ifp _ _=>none
def Zgz :Ob->Option (List PV)
 | .cells cs=>some cs
 | .row sz l=>if sz=1/\l.isEmpty=true then some []else none
 | .dead=>none
 | .gone=>none
 | .imap _=>none
 | .iter _ _ _=>none
def Ze3 (objs:Nat->Ob)(dst:Option Nat)(st xt ety:TyI)(s p:PV)(o2:Nat):CE:=
 match dst,s with
 |some t, .ref o sz off len _=>match Zgz (objs o)with
  |some cs=>(st.kind=1/\xt.kind=1/\ety.zok=true/\ety.size=1/\ety.bytes<=128/\objs t= .dead/\sz=1/\off=0/\len<=cs.length/\roomy (len+1),
   {val:= .ref t 1 0 (len+1) (len+1),wr:=[(t, .cells (cs.take len++[p])),(o, .gone)],rd:=[o2]})
  |none=> .no
 |_,_=> .no
def ZhD (objs:Nat->Ob)(st ety:TyI)(s x:PV):CE:=
 match Zbx objs x,s with
 |some xs, .ref o sz off len _=>match objs o with
  | .row sz' l=>(st.kind=1/\ety.zok=true/\sz=ety.size/\sz=sz'/\off=0/\len=l.length/\xs.length=len/\(∀d,d∈xs->d.cells.length=sz),{val:= .int len,wr:=[(o, .row sz xs)],rd:=Zb9 x})
  |_=> .no
 |_,_=> .no
def Zgd (ty:TyI)(objs:Nat->Ob)(x:PV):CE:=
 match x with
 | .mp o=>match objs o with
  | .imap l=>(ty.kind=7,{val:= .int l.length,rd:=[o]})
  |_=> .no
 | .d (.sc (.string s))=>(ty.kind=8, .v (.int s.size))
 |_=> .no
def Zcq (s:ByteArray):List Int:=s.data.toList.map λ b=>(b.toNat:Int)
def ZcM (s:ByteArray):List D:=(Zcq s).map λ b=> .sc (.int .u8 b)
def Zf4 (ty:TyI)(x i:PV):CE:=
 match x,i with
 | .d (.sc (.string s)), .d (.sc (.int .i64 n))=>(ty.kind=8/\0<=n/\n.toNat<s.size, .v (.d (.sc (.int .u8 ((Zcq s).getD n.toNat 0)))))
 |_,_=> .no
def Zg7 (op:BinOp)(a b:Int):Prop×Bool:=
 match op with
 | .eql=>(True,decide (a=b))
 | .neq=>(True, !decide (a=b))
 | .lss=>(True,decide (a<b))
 | .leq=>(True,decide (a<=b))
 | .gtr=>(True,decide (b<a))
 | .geq=>(True,decide (b<=a))
 |_=>(False,false)
def ZdL (P:Program)(objs:Nat->Ob)(dst:Option Nat)(b:Builtin)(tys:List TypeId)(xs:List PV):CE:=
 match b,tys,xs with
 | .len,[t],[x]=>match ZcO x with
  |some n=>((tyi P t).kind=1, .v (.int n))
  |none=>Zgd (tyi P t) objs x
 | .min,_,[.d (.sc (.int .i64 a)), .d (.sc (.int .i64 c))]=> .v (.int (if c<a then c else a))
 | .max,_,[.d (.sc (.int .i64 a)), .d (.sc (.int .i64 c))]=> .v (.int (if a<c then c else a))
 | .min,_,[.d (.sc (.int .i64 a)), .d (.sc (.int .i64 c)), .d (.sc (.int .i64 e))]=> .v (.int (if e<(if c<a then c else a)then e else(if c<a then c else a)))
 | .max,_,[.d (.sc (.int .i64 a)), .d (.sc (.int .i64 c)), .d (.sc (.int .i64 e))]=> .v (.int (if(if a<c then c else a)<e then e else(if a<c then c else a)))
 | .append,[t,u],[s,x]=>match Zdg objs x with
  |some (p,o2)=>Ze3 objs dst (tyi P t) (tyi P u) (tyi P (tyi P t).elem) s p o2
  |none=>Zdc objs dst (tyi P t) (tyi P u) (tyi P (tyi P t).elem) s x
 | .copy,[t,_],[s,x]=>ZhD objs (tyi P t) (tyi P (tyi P t).elem) s x
 |_,_,_=> .no
def Zfx (objs:Nat->Ob)(dst:Option Nat)(cs:Option (List PV)):CE:=
 match dst,cs with
 |some t,some cs=>(objs t= .dead,{val:= .ptr t 0 0 0,wr:=[(t, .cells cs)]})
 |_,_=> .no
def Zcz (ty:TyI)(objs:Nat->Ob)(a:PV):CE:=
 match a with
 | .d (.pt cs)=>(ty.ok=true/\(ldD ty cs).1, .v (.d (ldD ty cs).2))
 | .ptr o sz i c=>(ty.ok=true/\(Zev ty (objs o) sz i c).1,{val:=(Zev ty (objs o) sz i c).2,rd:=[o]})
 |_=> .no
def ZdR (ty:TyI)(objs:Nat->Ob)(a:PV)(x:Option (List PV)):CE:=
 match a,x with
 | .ptr o sz i c,some vs=>(vs.length=ty.size/\ty.ok=true/\(ZiR (objs o) sz i c vs).1,{val:= .unk,wr:=[(o,(ZiR (objs o) sz i c vs).2)]})
 |_,_=> .no
def Zf9 (P:Program)(ty:TyI)(f:Nat)(x:PV):CE:=
 match ty.fields[f]? with
 |some (off,ft)=>
  match x with
  | .d (.pt cs)=>(ty.kind=3/\P.cellsOf ft≠0, .v (.d (.pt (cs.drop off))))
  | .ptr o sz i c=>(ty.kind=3/\P.cellsOf ft≠0, .v (.ptr o sz i (c+off)))
  |_=> .no
 |none=> .no
def Zgc (ty:TyI)(esz:Nat)(x i:PV):CE:=
 match x,i with
 | .d (.sl l), .d (.sc (.int .i64 n))=>(ty.kind=1/\esz≠0/\0<=n/\n.toNat<l.length/\(l[n.toNat]?.getD default).cells.length=esz, .v (.d (.pt (l[n.toNat]?.getD default).cells)))
 | .ref o sz off len _, .d (.sc (.int .i64 n))=>(ty.kind=1/\esz≠0/\0<=n/\n.toNat<len/\sz=esz, .v (.ptr o sz (off+n.toNat) 0))
 | .ptr o sz i c, .d (.sc (.int .i64 n))=>(ty.kind=2/\esz≠0/\0<=n/\n.toNat<ty.len, .v (.ptr o sz i (c+n.toNat*esz)))
 |_,_=> .no
def ZbN :PV->Option PV
 | .nilS=>some (.bool true)
 | .z0=>some .ab
 | .d (.sl l)=>some (if l.isEmpty then .ab else .bool false)
 | .ref _ _ _ len cap=>some (if len=0/\cap=0 then .ab else .bool false)
 |_=>none
def ZlN :PV->PV
 | .d (.sc (.bool b))=> .bool (!b)
 |x=>x
def Zf5 (op:BinOp)(ty:TyI)(x y:PV):CE:=
 match x,y with
 |x, .nilS=>match ZbN x with
  |some r=>(ty.kind=1/\(op= .eql\/op= .neq), .v (if op= .eql then r else ZlN r))
  |none=> .no
 | .d (.sc (.int .i64 a)), .d (.sc (.int .i64 b))=>((Zd0 op a b).1, .v (.d (.sc (Zd0 op a b).2)))
 | .d (.sc (.int .i64 a)), .d (.sc (.int .u64 b))=>((op= .shl\/op= .shr)/\(Zd0 op a b).1, .v (.d (.sc (Zd0 op a b).2)))
 | .d (.sc (.int .u64 a)), .d (.sc (.int .u64 b))=>((Zd1 op a b).1, .v (.d (.sc (Zd1 op a b).2)))
 | .d (.sc (.int .u64 a)), .d (.sc (.int .i64 b))=>((op= .shl\/op= .shr)/\(Zd1 op a b).1, .v (.d (.sc (Zd1 op a b).2)))
 | .d (.sc (.bool a)), .d (.sc (.bool b))=>(ty.kind=6/\(op= .eql\/op= .neq), .v (.bool (if op= .eql then decide (a=b)else !decide (a=b))))
 | .d (.sc (.int .u8 a)), .d (.sc (.int .u8 b))=>((Zg7 op a b).1, .v (.bool (Zg7 op a b).2))
 | .d (.sc (.string a)), .d (.sc (.string b))=>((op= .eql\/op= .neq), .v (.bool (if op= .eql then decide (a=b)else !decide (a=b))))
 |p,q=>match p.agg?,q.agg? with
  |some cs,some ds=>match ZeQ cs ds with
   |some t=>(ty.peq=true/\cs.length=ty.size/\(op= .eql\/op= .neq), .v (.bool (if op= .eql then t else !t)))
   |none=> .no
  |_,_=> .no
def Zf7 (us ud:Option TypeDesc)(ty ety:TyI)(x:PV):CE:=
 match us,ud,x with
 |some _,some (.int k), .d (.sc (.int _ n))=> .v (.d (.sc (.int k (k.wrap n))))
 |some _,some _, .d (.sc (.string s))=>(ty.kind=1/\ety.bk=true/\roomy s.size, .v (.d (.sl (ZcM s))))
 |_,_,_=> .no
def Zgi (op:UnOp)(x:PV):CE:=
 match op,x with
 | .not, .d (.sc (.bool b))=> .v (.bool (!b))
 | .not, .ab=> .v .ab
 | .neg, .d (.sc (.int .i64 a))=> .v (.int (IntKind.i64.wrap (-a)))
 | .neg, .d (.sc (.int .u64 a))=> .v (.d (.sc (.int .u64 (IntKind.u64.wrap (-a)))))
 |_,_=> .no
def Zgg (c a b:PV):CE:=
 match c with
 | .d (.sc (.bool t))=> .v (if t then a else b)
 |_=> .no
def Zd2 (dflt:Nat):Option PV->Option Int
 |none=>some dflt
 |some (.d (.sc (.int .i64 n)))=>some n
 |_=>none
def ZiT (l h:Nat):PV->PV
 | .d (.sl xs)=> .d (.sl ((xs.take h).drop l))
 | .ref o sz off _ cap=> .ref o sz (off+l) (h-l) (cap-l)
 | .nilS=> .nilS
 | .z0=> .z0
 |x=>x
def Zmv (esz:Nat):PV->Prop
 | .d (.sl xs)=>∀d,d∈xs->d.cells.length=esz
 | .ref _ sz _ _ _=>sz=esz
 |_=>True
def Zgh (ty:TyI)(esz:Nat)(x:PV)(lo hi mx:Option PV):CE:=
 match ZcO x,Zd2 0 lo with
 |some len,some l=>match Zd2 len hi,mx with
  |some h,none=>(ty.kind=1/\esz≠0/\0<=l/\l<=h/\h<=len/\Zmv esz x, .v (ZiT l.toNat h.toNat x))
  |some h,some (.d (.sc (.int .i64 m)))=>(ty.kind=1/\esz≠0/\hi.isSome=true/\l=0/\h=0/\m=0, .v .z0)
  |_,_=> .no
 |_,_=> .no
def Zf8 (x:PV)(i:Nat):CE:=
 match x with
 | .tup vs=>match vs[i]? with
  |some v=> .v v
  |none=> .no
 | .d (.tup vs)=>match vs[i]? with
  |some v=> .v (.d v)
  |none=> .no
 |_=> .no
def Zf6 (ty:TyI)(ps:List (Nat×PV)):CE:=
 match Zhj (ty.places[·]?) (ty.zero.map ZeN) ps with
 |some cs=>(ty.zok=true/\ty.bok=true, .v (.ag cs))
 |none=> .no
def D.ofCells (agg:Bool)(cs:List D):D:=if agg then .ag cs else match cs with|[x]=>x|_=> .ag cs
def cellD :Value->D
 | .slice none 0 0=> .sl []
 |v=> .sc v
def Ze4 (objs:Nat->Ob)(dst:Option Nat)(own:Bool)(ty ety:TyI)(n:Nat)(ps:List (Nat×PV)):CE:=
 match Zfe ety.size (List.replicate n (.ofCells ety.agg (ety.zero.map cellD))) (ps.map λ p=>(p.1,toD objs 4 p.2))with
 |some l=>if own then match dst with
  |some t=>(ty.kind=1/\ety.zok=true/\n*ety.size<=16777216/\(ps.map (·.2)).flatMap (PV.refs objs 4)=[]/\objs t= .dead,{val:= .ref t ety.size 0 n n,wr:=[(t, .row ety.size l)]})
  |none=> .no
  else(ty.kind=1/\ety.zok=true/\n*ety.size<=16777216/\(ps.map (·.2)).flatMap (PV.refs objs 4)=[],{val:= .d (.sl l)})
 |none=> .no
def Zlu :PV->Bool
 | .ref _ _ _ _ _=>true
 | .d _=>false
 | .ptr _ _ _ _=>false
 | .nilS=>false
 | .z0=>false
 | .ag _=>false
 | .tup _=>false
 | .fn _ _=>false
 | .unk=>false
 | .und=>false
 | .ab=>false
 | .mp _=>false
 | .ifp _ _=>false
def Zik :List (Nat×PV)->Bool
 |[]=>false
 |[q]=>Zlu q.2
 |_::_::_=>false
def ZdK (objs:Nat->Ob)(dst:Option Nat)(ty ety:TyI)(n:Nat)(ps:List (Nat×PV)):CE:=
 match dst,ps with
 |some t,[(i,p)]=>(ty.kind=1/\ety.zok=true/\ety.size=1/\n=1/\i=0/\Zlu p=true/\objs t= .dead,{val:= .ref t 1 0 1 1,wr:=[(t, .cells [p])]})
 |_,_=> .no
def Zfw (ty:TyI)(objs:Nat->Ob)(dst:Option Nat):CE:=
 match dst with
 |some t=>(ty.zok=true/\objs t= .dead,{val:= .ptr t 0 0 0,wr:=[(t, .cells (ty.zero.map ZeN))]})
 |none=> .no
def ZgP :List Value->Bool
 |[.slice none 0 0]=>true
 |_=>false
def Zfy (ty ety:TyI)(objs:Nat->Ob)(dst:Option Nat)(l c:PV):CE:=
 match dst,l,c with
 |some t, .d (.sc (.int .i64 n)), .d (.sc (.int .i64 m))=>
  (ty.kind=1/\ety.zok=true/\n=m/\0<=n/\(ety.bytes:Int)*n<=281474976710656/\n<=9223372036854775807/\objs t= .dead,
   {val:= .ref t ety.size 0 n.toNat n.toNat,wr:=[(t,if ZgP ety.zero=true then .cells (List.replicate n.toNat .nilS)else .row ety.size (List.replicate n.toNat (.ofCells ety.agg (ety.zero.map cellD))))]})
 |_,_,_=> .no
def ZdO (ty:TyI)(objs:Nat->Ob)(dst:Option Nat):CE:=
 match dst with
 |some t=>(ty.kind=7/\objs t= .dead,{val:= .mp t,wr:=[(t, .imap [])]})
 |none=> .no
def ZdP (ty:TyI)(objs:Nat->Ob)(m k v:PV):CE:=
 match m,k,v with
 | .mp o, .d (.sc (.int .i64 a)), .d (.sc (.int .i64 c))=>match objs o with
  | .imap l=>(ty.kind=7,{val:= .unk,wr:=[(o, .imap (Zew l a c))]})
  |_=> .no
 |_,_,_=> .no
def ZdN (ty:TyI)(objs:Nat->Ob)(m k:PV):CE:=
 match m,k with
 | .mp o, .d (.sc (.int .i64 a))=>match objs o with
  | .imap l=>(ty.kind=7,{val:= .int (Zbp l a),rd:=[o]})
  |_=> .no
 |_,_=> .no
def ZdQ (ty:TyI)(objs:Nat->Ob)(dst:Option Nat)(m:PV):CE:=
 match dst,m with
 |some t, .mp o=>match objs o with
  | .imap l=>(ty.kind=7/\objs t= .dead,{val:= .ptr t 1 0 0,wr:=[(t, .iter o l.length [])],rd:=[o]})
  |_=> .no
 |_,_=> .no
def ZdM (objs:Nat->Ob)(x:PV):CE:=
 match x with
 | .ptr o _ 0 0=>match objs o with
  | .iter m k sn=>match objs m,sn.getLast? with
   | .imap l,some j=>(l.length=k/\j<k,{val:= .tup [.int (l.getD j (0,0)).1, .int (l.getD j (0,0)).2],rd:=[o,m]})
   |_,_=> .no
  |_=> .no
 |_=> .no
def Zgf (x:PV):CE:=
 match x with
 | .d (.pt cs)=> .v (.d (.pt cs))
 | .ptr o sz i c=> .v (.ptr o sz i c)
 |_=> .no
def Zgb (ty:TyI)(T:TypeId)(x:PV):CE:=
 match x with
 | .d (.sc (.int .i64 n))=>(ty.kind=5, .v (.d (.sc (.iface T (.int .i64 n)))))
 | .ptr o sz i c=>(ty.kind=4/\i*sz+c=0, .v (.ifp T o))
 |_=> .no
def Zf3 (ty:TyI)(T:TypeId)(x:PV):CE:=
 match x with
 | .d (.sc (.iface t (.int .i64 n)))=>(ty.kind=5/\t=T, .v (.int n))
 |_=> .no
def Zge (fn:Fn)(first:List PV)(caps:List PV):CE:=
 match fn,first with
 | .func f,[]=> .v (.fn f caps)
 |_,_=> .no
def ZpM (own:Nat->Bool):Option Nat->Bool
 |some t=>own t
 |none=>false
def sem (P:Program)(own:Nat->Bool)(ev:Operand->PV)(objs:Nat->Ob)(dst:Option Nat)(op:Op):CE:=
 match op with
 | .move x=> .v (ev x)
 | .assign x=> .v (ev x)
 | .pick c a b=>Zgg (ev c) (ev a) (ev b)
 | .alloc T=>Zfw (tyi P T) objs dst
 | .box _ x=>Zfx objs dst (ev x).cells?
 | .build T ps=>Zf6 (tyi P T) (ps.toList.map λ p=>(p.1,ev p.2))
 | .buildSlice T n ps=>if Zik (ps.toList.map λ p=>(p.1,ev p.2))=true then ZdK objs dst (tyi P T) (tyi P (tyi P T).elem) n (ps.toList.map λ p=>(p.1,ev p.2))
   else Ze4 objs dst (ZpM own dst) (tyi P T) (tyi P (tyi P T).elem) n (ps.toList.map λ p=>(p.1,ev p.2))
 | .load T a=>Zcz (tyi P T) objs (ev a)
 | .store T a x=>ZdR (tyi P T) objs (ev a) (ev x).cells?
 | .fieldAddr T x f=>Zf9 P (tyi P T) f (ev x)
 | .indexAddr T (.global g) i=>Zga (tabs P) g (tyi P T) (P.cellsOf (tyi P T).elem) (ev i)
 | .indexAddr T x i=>Zgc (tyi P T) (P.cellsOf (tyi P T).elem) (ev x) (ev i)
 | .makeInterface T x=>Zgb (tyi P T) T (ev x)
 | .typeAssert x _ T false=>Zf3 (tyi P T) T (ev x)
 | .binOp op T x y _=>Zf5 op (tyi P T) (ev x) (ev y)
 | .unOp op _ x=>Zgi op (ev x)
 | .convert src dst x=>Zf7 (P.underlying src) (P.underlying dst) (tyi P dst) (tyi P (tyi P dst).elem) (ev x)
 | .index T x i=>Zf4 (tyi P T) (ev x) (ev i)
 | .extract x i=>Zf8 (ev x) i
 | .nilCheck x=>Zgf (ev x)
 | .slice T x lo hi mx=>Zgh (tyi P T) (P.cellsOf (tyi P T).elem) (ev x) (lo.map ev) (hi.map ev) (mx.map ev)
 | .makeSlice T l c=>Zfy (tyi P T) (tyi P (tyi P T).elem) objs dst (ev l) (ev c)
 | .makeFunc fn first caps=>Zge fn (first.toList.map ev) (caps.toList.map ev)
 | .makeMap T none=>ZdO (tyi P T) objs dst
 | .mapUpdate T m k v=>ZdP (tyi P T) objs (ev m) (ev k) (ev v)
 | .lookup T m k false=>ZdN (tyi P T) objs (ev m) (ev k)
 | .range T x=>ZdQ (tyi P T) objs dst (ev x)
 | .entry x=>ZdM objs (ev x)
 | .call c=>match c.callee with
  | .builtin b=>ZdL P objs dst b c.argTypes.toList (c.args.toList.map ev)
  |_=> .no
 |_=> .no
def ZhQ (P:Program)(objs:Nat->Ob)(f:PV)(xs:List PV)(r:D):Prop:=
 ∃g caps args,f= .d (.fn g caps)/\xs.mapM (toD objs 4)=some args/\Zaa P g (args++caps) r/\(xs.flatMap (PV.refs objs 4)=[]\/r.flat 4=true)
mutual
def PV.ren (g:Nat->Nat):PV->PV
 | .ref o sz off len cap=> .ref (g o) sz off len cap
 | .ptr o sz i c=> .ptr (g o) sz i c
 | .ag cs=> .ag (PV.renL g cs)
 | .tup cs=> .tup (PV.renL g cs)
 | .fn f cs=> .fn f (PV.renL g cs)
 | .d x=> .d x
 | .nilS=> .nilS
 | .z0=> .z0
 | .unk=> .unk
 | .und=> .und
 | .ab=> .ab
 | .mp o=> .mp (g o)
 | .ifp T o=> .ifp T (g o)
def PV.renL (g:Nat->Nat):List PV->List PV
 |[]=>[]
 |c::cs=>PV.ren g c::PV.renL g cs
end
theorem PV.renL_eq (g:Nat->Nat):∀cs:List PV,PV.renL g cs=cs.map (PV.ren g)
 |[]=>rfl
 |c::cs=>by rw[PV.renL,PV.renL_eq g cs];rfl
def Ob.ren (g:Nat->Nat):Ob->Ob
 | .cells cs=> .cells (cs.map (PV.ren g))
 | .dead=> .dead
 | .gone=> .gone
 | .row sz l=> .row sz l
 | .imap l=> .imap l
 | .iter m k sn=> .iter (g m) k sn
def ZfI :PV->Option (FuncId×List PV)
 | .d (.fn g caps)=>some (g,caps.map .d)
 | .fn g caps=>some (g,caps)
 |_=>none
def Zb8 (g:Nat->Nat)(M:List (Nat×Ob)):List (Nat×Ob):=M.map λ q=>(g q.1,q.2.ren g)
def bsz (w:World)(b:Nat):Nat:=match w.heap[b]? with|some (.cells c _ _)=>c.size|_=>0
def ownX (ι:Nat->Option Nat)(X:Nat->Prop):Nat->Prop:=λ b=>X b\/∃o,ι o=some b
inductive PV.At (w:World)(ι:Nat->Option Nat)(X:Nat->Prop):PV->Value->Prop
 |d (x:D) (v:Value) (h:D.At w (ownX ι X) x v):PV.At w ι X (.d x) v
 |ref (o sz off len cap capr b:Nat) (hι:ι o=some b) (hl:len<=capr) (hc:cap<=capr) (hm:capr<=maxLen) (hs:(off+capr)*sz=bsz w b):
  PV.At w ι X (.ref o sz off len cap) (.slice (some ⟨b,off*sz,none⟩) len capr)
 |ref0 (o sz off:Nat) (base:Option Addr):PV.At w ι X (.ref o sz off 0 0) (.slice base 0 0)
 |ptr (o sz i c b:Nat) (hι:ι o=some b):PV.At w ι X (.ptr o sz i c) (.pointer (some ⟨b,i*sz+c,none⟩))
 |nilS:PV.At w ι X .nilS (.slice none 0 0)
 |z0 (base:Option Addr):PV.At w ι X .z0 (.slice base 0 0)
 |ag (cs:List PV) (arr:Array Value) (hsz:arr.size=cs.length) (hone:∀(j:Nat) (v:Value),arr[j]? =some v->v.oneCell'=true)
  (h:∀(j:Nat) d v,cs[j]? =some d->arr[j]? =some v->PV.At w ι X d v):PV.At w ι X (.ag cs) (.agg arr)
 |tup (cs:List PV) (arr:Array Value) (hsz:arr.size=cs.length)
  (h:∀(j:Nat) d v,cs[j]? =some d->arr[j]? =some v->PV.At w ι X d v):PV.At w ι X (.tup cs) (.tuple arr)
 |fn (f:FuncId) (cs:List PV) (arr:Array Value) (hsz:arr.size=cs.length)
  (h:∀(j:Nat) d v,cs[j]? =some d->arr[j]? =some v->PV.At w ι X d v):PV.At w ι X (.fn f cs) (.func (.func f) #[] arr)
 |unk (v:Value):PV.At w ι X .unk v
 |und:PV.At w ι X .und undef
 |ab (b:Bool):PV.At w ι X .ab (.bool b)
 |mp (o b:Nat) (hι:ι o=some b):PV.At w ι X (.mp o) (.map (some b))
 |ifp (T o b:Nat) (hι:ι o=some b):PV.At w ι X (.ifp T o) (.iface T (.pointer (some ⟨b,0,none⟩)))
structure EntOk (es:Array MapEntry)(clock:Nat)(l:List (Int×Int)):Prop where
 kv:es.toList.map (λ e=>(e.key,e.val))=l.map λ p=>(Value.int .i64 p.1,Value.int .i64 p.2)
 born:es.toList.map (·.born)=List.range l.length
 clock:clock=l.length
inductive Ob.At (w:World)(ι:Nat->Option Nat)(X:Nat->Prop)(o:Nat):Ob->Prop
 |dead (h:ι o=none):Ob.At w ι X o .dead
 |gone:Ob.At w ι X o .gone
 |cells (cs:List PV) (b:Nat) (c:Array Value) (T:TypeId) (hι:ι o=some b) (hb:w.heap[b]? =some (.cells c T (0,0))) (hsz:cs.length<=c.size)
  (hone:∀(j:Nat) (v:Value),c[j]? =some v->v.oneCell'=true)
  (h:∀(j:Nat) p v,cs[j]? =some p->c[j]? =some v->PV.At w ι X p v):Ob.At w ι X o (.cells cs)
 |row0 (sz:Nat) (h:ι o=none):Ob.At w ι X o (.row sz [])
 |row (sz:Nat) (l:List D) (b:Nat) (c:Array Value) (T:TypeId) (hι:ι o=some b) (hb:w.heap[b]? =some (.cells c T (0,0))) (hsz:l.length*sz<=c.size)
  (hcl:∀d,d∈l->d.cells.length=sz)
  (hone:∀(j:Nat) (v:Value),c[j]? =some v->v.oneCell'=true)
  (h:∀(i:Nat) d (j:Nat) e v,l[i]? =some d->d.cells[j]? =some e->c[i*sz+j]? =some v->D.At w (ownX ι X) e v):Ob.At w ι X o (.row sz l)
 |imap (l:List (Int×Int)) (b:Nat) (es:Array MapEntry) (clock:Nat) (hι:ι o=some b) (hb:w.heap[b]? =some (.map es clock))
  (he:EntOk es clock l):Ob.At w ι X o (.imap l)
 |iter (m k:Nat) (sn:List Nat) (b bm:Nat) (hι:ι o=some b) (hm:ι m=some bm) (hb:w.heap[b]? =some (.mapIter (some bm) k sn.toArray k)):Ob.At w ι X o (.iter m k sn)
def Zbh :List (Nat×PV)->Nat->PV
 |[]=>λ _=> .unk
 |(i,v)::r=>upd i v (Zbh r)
def Zam :List (Nat×Ob)->Nat->Ob
 |[]=>λ _=> .dead
 |(i,v)::r=>upd i v (Zam r)
def PV.only (L:List Nat):Nat->PV->Bool
 |0,_=>false
 |_+1, .d _=>true
 |_+1, .unk=>true
 |_+1, .und=>true
 |_+1, .ab=>true
 |_+1, .nilS=>true
 |_+1, .z0=>true
 |_+1, .ref o _ _ _ _=>L.contains o
 |_+1, .ptr o _ _ _=>L.contains o
 |_+1, .mp o=>L.contains o
 |_+1, .ifp _ o=>L.contains o
 |n+1, .ag cs=>cs.all (PV.only L n)
 |n+1, .tup cs=>cs.all (PV.only L n)
 |n+1, .fn _ cs=>cs.all (PV.only L n)
def Ob.only (L:List Nat):Ob->Bool
 | .cells cs=>cs.all (PV.only L 4)
 | .iter m _ _=>L.contains m
 |_=>true
def Zaf (P:Program)(f:FuncId)(args:List PV)(M:List (Nat×Ob))(r:PV)(M':List (Nat×Ob)):Prop:=
 ZhR P f/\∀(w:World) (ι:Nat->Option Nat) (X:Nat->Prop) (vs:Array Value),
  (∀b,X b->b<w.heap.size/\∀o,ι o≠some b)->(∀o o' b,Zam M o≠ .gone->Zam M o'≠ .gone->ι o=some b->ι o'=some b->o=o')->(∀o b,ι o=some b->b<w.heap.size)->
  vs.size=args.length->(∀(j:Nat) p v,args[j]? =some p->vs[j]? =some v->PV.At w ι X p v)->(∀o,Ob.At w ι X o (Zam M o))->(∀o b,ι o=some b->o∈M.map (·.1))->ZdX (tabs P) w (ownX ι X)->
  Calls P f vs w λ e w'=>∃v ι',e= .returned v/\PV.At w' ι' X r v/\(∀o,Ob.At w' ι' X o (Zam M' o))/\(∀o b,ι' o=some b->o∈M'.map (·.1))/\
   (∀o o' b,Zam M' o≠ .gone->Zam M' o'≠ .gone->ι' o=some b->ι' o'=some b->o=o')/\(∀o b,ι' o=some b->¬X b/\((∃o',ι o'=some b)\/w.heap.size<=b)/\b<w'.heap.size)/\
   w'.os=w.os/\w'.tape=w.tape/\w'.output=w.output/\w.heap.size<=w'.heap.size/\
   (∀b,b<w.heap.size->(∀o,ι o≠some b)->w'.heap[b]? =w.heap[b]?)/\
   (∀o b,ι o=some b->ι' o=some b/\bsz w' b=bsz w b)
def PV.flatP :Nat->PV->Bool
 |0,_=>false
 |_+1, .d x=>x.flat 4
 |n+1, .ag cs=>cs.all (PV.flatP n)
 |n+1, .tup cs=>cs.all (PV.flatP n)
 |n+1, .fn _ cs=>cs.all (PV.flatP n)
 |_+1, .ref _ _ _ _ _=>true
 |_+1, .ptr _ _ _ _=>true
 |_+1, .nilS=>true
 |_+1, .z0=>true
 |_+1, .unk=>true
 |_+1, .und=>true
 |_+1, .ab=>true
 |_+1, .mp _=>true
 |_+1, .ifp _ _=>true
def Ob.flatP :Ob->Prop
 | .cells cs=>(cs.all (PV.flatP 4))=true
 | .row _ l=>∀d,d∈l->∀c,c∈d.cells->c.flat 4=true
 | .dead=>True
 | .gone=>True
 | .imap _=>True
 | .iter _ _ _=>True
def Zek (objs:Nat->Ob)(g:Nat->Nat)(fl:Prop):List PV->List PV->Prop
 |[],[]=>True
 |x::xs,p::ps=>(x=p.ren g\/∃d,p= .d d/\toD objs 4 x=some d/\(x.refs objs 4=[]\/fl))/\Zek objs g fl xs ps
 |_,_=>False
def ZiZ (r:PV)(M M':List (Nat×Ob)):Prop:=r.flatP 4=true/\(∀q∈M,q.2.flatP)/\∀q∈M',q.2.flatP
structure CallCondM (P:Program)(objs:Nat->Ob)(f:PV)(xs:List PV)(e:Eff):Prop where
 ex:∃(h:FuncId) (caps args:List PV) (M M':List (Nat×Ob)) (r:PV) (g:Nat->Nat) (fl:Prop),
  ZfI f=some (h,caps)/\Zek objs g fl (xs++caps) args/\Zaf P h args M r M'/\
  M'.map (·.1)=M.map (·.1)/\(args.all (PV.only (M.map (·.1)) 4))=true/\(M.all λ q=>q.2.only (M.map (·.1)))=true/\
  r.only (M.map (·.1)) 4=true/\(M'.all λ q=>q.2.only (M.map (·.1)))=true/\
  (M.map λ q=>g q.1).Nodup/\(∀q∈M,objs (g q.1)=q.2.ren g)/\
  (∀q∈M,2000<=q.1->q.2= .dead)/\(∀q∈M,q.2≠ .gone)/\
  (fl->ZiZ r M M'/\∀x∈xs++caps,∀o∈x.refs objs 4,o∉M.map λ q=>g q.1)/\
  e={val:=r.ren g,wr:=Zb8 g M',rd:=(xs++caps).flatMap (PV.refs objs 4)}
def ZrE (P:Program)(T:TypeId)(m:String)(g:FuncId):Prop:=∀(x:Value) (w:World),(method (P.types.size+Made.depth) T x m).run P w= .ok (g,x) w
def ZrF (P:Program)(T:TypeId)(m:String)(g:FuncId)(t:TypeId):Prop:=
 ∀(b:Nat) (w:World),(method (P.types.size+Made.depth) T (.pointer (some ⟨b,0,none⟩)) m).run P w=(do let v<-loadVar t ⟨b,0,none⟩;pure (g,v):Sem (FuncId×Value)).run P w
def Inv (P:Program)(objs:Nat->Ob)(x:PV)(m:String)(g:FuncId)(recv:PV)(rd:List Nat):Prop:=
 ∃T o,x= .ifp T o/\((ZrE P T m g/\recv= .ptr o 0 0 0/\rd=[])\/
  ∃t,ZrF P T m g t/\(Zcz (tyi P t) objs (.ptr o 0 0 0)).1/\recv=(Zcz (tyi P t) objs (.ptr o 0 0 0)).2.val/\rd=[o])
abbrev Za9 :=List Nat×List Nat
def Eff.foot (e:Eff):Za9:=(e.rd,e.wr.map (·.1))
def St.put (S:St)(dst:Option Nat)(x:PV):St:={env:=match dst with|some t=>upd t x S.env|none=>S.env,objs:=S.objs}
theorem ZaM (S:St)(dst:Option Nat)(x:PV):S.app dst {val:=x}=S.put dst x:=by
 cases dst<;>rfl
theorem Zg5 (S:St)(dst:Option Nat)(x:PV)(rd:List Nat):S.app dst {val:=x,rd:=rd}=S.put dst x:=by
 cases dst<;>rfl
def wpOp (P:Program)(own:Nat->Bool)(o:Oper)(S:St)(fs:List Za9)(k:St->List Za9->Prop):Prop:=
 match o.op with
 | .call {callee:= .value f,args,.. }=>(∃r,ZhQ P S.objs (S.ev f) (args.toList.map S.ev) r/\
   k (S.put o.dst (.d r)) (((args.toList.map S.ev).flatMap (PV.refs S.objs 4),[])::fs))\/
   ∃e,CallCondM P S.objs (S.ev f) (args.toList.map S.ev) e/\k (S.app o.dst e) (e.foot::fs)
 | .call {callee:= .invoke r m,args,.. }=>∃g recv rd e,Inv P S.objs (S.ev r) m g recv rd/\CallCondM P S.objs (.d (.fn g [])) (recv::args.toList.map S.ev) e/\
   k (S.app o.dst e) ((rd++e.rd,e.wr.map (·.1))::fs)
 |op=>(sem P own S.ev S.objs o.dst op).1/\k (S.app o.dst (sem P own S.ev S.objs o.dst op).2) ((sem P own S.ev S.objs o.dst op).2.foot::fs)
def grd (all:List Oper)(S:St)(j:Nat):Option (Option Bool):=
 match(all[j]?).bind (·.dst)with
 |some t=>match S.env t with
  | .d (.sc (.bool b))=>some (some b)
  | .und=>some none
  |_=>none
 |none=>none
def Zab (P:Program)(own:Nat->Bool)(all:List Oper):List Oper->St->List Za9->(St->List Za9->Prop)->Prop
 |[],S,fs,K=>K S fs
 |o::rest,S,fs,K=>
  match o.guard with
  |none=>wpOp P own o S fs λ S' fs'=>Zab P own all rest S' fs' K
  |some (j,want)=>
   match grd all S j with
   |some g=>if g=some want then wpOp P own o S fs λ S' fs'=>Zab P own all rest S' fs' K
    else Zab P own all rest (S.put o.dst .und) (([],[])::fs) K
   |none=>False
section rules
variable {P:Program}{own:Nat->Bool}{all rest:List Oper}{S:St}{fs:List Za9}{K:St->List Za9->Prop}{dst:Option Nat}{ty:TypeId}{pos:String}{af:Array Edge}
@[go_sem] theorem ZAW :Zab P own all [] S fs K=K S fs:=rfl
end rules
section rules
variable {P:Program}{own:Nat->Bool}{all rest:List Oper}{S:St}{fs:List Za9}{K:St->List Za9->Prop}{dst:Option Nat}{ty:TypeId}{pos:String}{af:Array Edge}
@[go_sem] theorem ZAV {x:Operand}:Zab P own all (⟨dst, .move x,ty,pos,af,none⟩::rest) S fs K=Zab P own all rest (S.put dst (S.ev x)) (([],[])::fs) K:=by
 show(True/\Zab P own all rest (S.app dst {val:=S.ev x}) (([],[])::fs) K)=_;rw[ZaM,true_and]
@[go_sem] theorem ZAB {x:Operand}:Zab P own all (⟨dst, .assign x,ty,pos,af,none⟩::rest) S fs K=Zab P own all rest (S.put dst (S.ev x)) (([],[])::fs) K:=by
 show(True/\Zab P own all rest (S.app dst {val:=S.ev x}) (([],[])::fs) K)=_;rw[ZaM,true_and]
@[go_sem] theorem ZAY {c a b:Operand}:Zab P own all (⟨dst, .pick c a b,ty,pos,af,none⟩::rest) S fs K=
  ((Zgg (S.ev c) (S.ev a) (S.ev b)).1/\Zab P own all rest (S.app dst (Zgg (S.ev c) (S.ev a) (S.ev b)).2) ((Zgg (S.ev c) (S.ev a) (S.ev b)).2.foot::fs) K):=Eq.trans rfl rfl
@[go_sem] theorem ZAA {T:TypeId}:Zab P own all (⟨dst, .alloc T,ty,pos,af,none⟩::rest) S fs K=
  ((Zfw (tyi P T) S.objs dst).1/\Zab P own all rest (S.app dst (Zfw (tyi P T) S.objs dst).2) ((Zfw (tyi P T) S.objs dst).2.foot::fs) K):=Eq.trans rfl rfl
@[go_sem] theorem ZAD {T:TypeId}{x:Operand}:Zab P own all (⟨dst, .box T x,ty,pos,af,none⟩::rest) S fs K=
  ((Zfx S.objs dst (S.ev x).cells?).1/\Zab P own all rest (S.app dst (Zfx S.objs dst (S.ev x).cells?).2) ((Zfx S.objs dst (S.ev x).cells?).2.foot::fs) K):=Eq.trans rfl rfl
@[go_sem] theorem run_build {T:TypeId}{ps:Array (Nat×Operand)}:Zab P own all (⟨dst, .build T ps,ty,pos,af,none⟩::rest) S fs K=
  ((Zf6 (tyi P T) (ps.toList.map λ p=>(p.1,S.ev p.2))).1/\Zab P own all rest (S.app dst (Zf6 (tyi P T) (ps.toList.map λ p=>(p.1,S.ev p.2))).2) ((Zf6 (tyi P T) (ps.toList.map λ p=>(p.1,S.ev p.2))).2.foot::fs) K):=Eq.trans rfl rfl
@[go_sem] theorem ZAE {T:TypeId}{n:Nat}{t:Nat}{ps:Array (Nat×Operand)}:Zab P own all (⟨some t, .buildSlice T n ps,ty,pos,af,none⟩::rest) S fs K=
  if Zik (ps.toList.map λ p=>(p.1,S.ev p.2))=true then
   ((ZdK S.objs (some t) (tyi P T) (tyi P (tyi P T).elem) n (ps.toList.map λ p=>(p.1,S.ev p.2))).1/\
   Zab P own all rest (S.app (some t) (ZdK S.objs (some t) (tyi P T) (tyi P (tyi P T).elem) n (ps.toList.map λ p=>(p.1,S.ev p.2))).2) ((ZdK S.objs (some t) (tyi P T) (tyi P (tyi P T).elem) n (ps.toList.map λ p=>(p.1,S.ev p.2))).2.foot::fs) K)
  else((Ze4 S.objs (some t) (own t) (tyi P T) (tyi P (tyi P T).elem) n (ps.toList.map λ p=>(p.1,S.ev p.2))).1/\
   Zab P own all rest (S.app (some t) (Ze4 S.objs (some t) (own t) (tyi P T) (tyi P (tyi P T).elem) n (ps.toList.map λ p=>(p.1,S.ev p.2))).2) ((Ze4 S.objs (some t) (own t) (tyi P T) (tyi P (tyi P T).elem) n (ps.toList.map λ p=>(p.1,S.ev p.2))).2.foot::fs) K):=by
 have h:Zab P own all (⟨some t, .buildSlice T n ps,ty,pos,af,none⟩::rest) S fs K=((λ e:CE=>e.1/\Zab P own all rest (S.app (some t) e.2) (e.2.foot::fs) K)
   (if Zik (ps.toList.map λ p=>(p.1,S.ev p.2))=true then ZdK S.objs (some t) (tyi P T) (tyi P (tyi P T).elem) n (ps.toList.map λ p=>(p.1,S.ev p.2))
    else Ze4 S.objs (some t) (own t) (tyi P T) (tyi P (tyi P T).elem) n (ps.toList.map λ p=>(p.1,S.ev p.2)))):=Eq.trans rfl rfl
 rw[h];split<;>rfl
@[go_sem] theorem ZAO {T:TypeId}{a:Operand}:Zab P own all (⟨dst, .load T a,ty,pos,af,none⟩::rest) S fs K=
  ((Zcz (tyi P T) S.objs (S.ev a)).1/\Zab P own all rest (S.app dst (Zcz (tyi P T) S.objs (S.ev a)).2) ((Zcz (tyi P T) S.objs (S.ev a)).2.foot::fs) K):=Eq.trans rfl rfl
@[go_sem] theorem ZA1 {T:TypeId}{a x:Operand}:Zab P own all (⟨dst, .store T a x,ty,pos,af,none⟩::rest) S fs K=
  ((ZdR (tyi P T) S.objs (S.ev a) (S.ev x).cells?).1/\Zab P own all rest (S.app dst (ZdR (tyi P T) S.objs (S.ev a) (S.ev x).cells?).2) ((ZdR (tyi P T) S.objs (S.ev a) (S.ev x).cells?).2.foot::fs) K):=Eq.trans rfl rfl
@[go_sem] theorem ZAJ {T:TypeId}{x:Operand}{f:Nat}:Zab P own all (⟨dst, .fieldAddr T x f,ty,pos,af,none⟩::rest) S fs K=
  ((Zf9 P (tyi P T) f (S.ev x)).1/\Zab P own all rest (S.app dst (Zf9 P (tyi P T) f (S.ev x)).2) ((Zf9 P (tyi P T) f (S.ev x)).2.foot::fs) K):=Eq.trans rfl rfl
@[go_sem] theorem ZAM {T:TypeId}{x:Nat}{i:Operand}:Zab P own all (⟨dst, .indexAddr T (.tmp x) i,ty,pos,af,none⟩::rest) S fs K=
  ((Zgc (tyi P T) (P.cellsOf (tyi P T).elem) (S.ev (.tmp x)) (S.ev i)).1/\Zab P own all rest (S.app dst (Zgc (tyi P T) (P.cellsOf (tyi P T).elem) (S.ev (.tmp x)) (S.ev i)).2) ((Zgc (tyi P T) (P.cellsOf (tyi P T).elem) (S.ev (.tmp x)) (S.ev i)).2.foot::fs) K):=Eq.trans rfl rfl
@[go_sem] theorem ZAN {T:TypeId}{g:Nat}{i:Operand}:Zab P own all (⟨dst, .indexAddr T (.global g) i,ty,pos,af,none⟩::rest) S fs K=
  ((Zga (tabs P) g (tyi P T) (P.cellsOf (tyi P T).elem) (S.ev i)).1/\Zab P own all rest (S.app dst (Zga (tabs P) g (tyi P T) (P.cellsOf (tyi P T).elem) (S.ev i)).2) ((Zga (tabs P) g (tyi P T) (P.cellsOf (tyi P T).elem) (S.ev i)).2.foot::fs) K):=Eq.trans rfl rfl
@[go_sem] theorem ZAR {T:TypeId}{x:Operand}:Zab P own all (⟨dst, .makeInterface T x,ty,pos,af,none⟩::rest) S fs K=
  ((Zgb (tyi P T) T (S.ev x)).1/\Zab P own all rest (S.app dst (Zgb (tyi P T) T (S.ev x)).2) ((Zgb (tyi P T) T (S.ev x)).2.foot::fs) K):=Eq.trans rfl rfl
@[go_sem] theorem ZA2 {T U:TypeId}{x:Operand}:Zab P own all (⟨dst, .typeAssert x U T false,ty,pos,af,none⟩::rest) S fs K=
  ((Zf3 (tyi P T) T (S.ev x)).1/\Zab P own all rest (S.app dst (Zf3 (tyi P T) T (S.ev x)).2) ((Zf3 (tyi P T) T (S.ev x)).2.foot::fs) K):=Eq.trans rfl rfl
@[go_sem] theorem ZAC {op:BinOp}{T T':TypeId}{x y:Operand}:Zab P own all (⟨dst, .binOp op T x y T',ty,pos,af,none⟩::rest) S fs K=
  ((Zf5 op (tyi P T) (S.ev x) (S.ev y)).1/\Zab P own all rest (S.app dst (Zf5 op (tyi P T) (S.ev x) (S.ev y)).2) ((Zf5 op (tyi P T) (S.ev x) (S.ev y)).2.foot::fs) K):=Eq.trans rfl rfl
@[go_sem] theorem ZA3 {op:UnOp}{T:TypeId}{x:Operand}:Zab P own all (⟨dst, .unOp op T x,ty,pos,af,none⟩::rest) S fs K=
  ((Zgi op (S.ev x)).1/\Zab P own all rest (S.app dst (Zgi op (S.ev x)).2) ((Zgi op (S.ev x)).2.foot::fs) K):=Eq.trans rfl rfl
@[go_sem] theorem ZAG {T U:TypeId}{x:Operand}:Zab P own all (⟨dst, .convert T U x,ty,pos,af,none⟩::rest) S fs K=
  ((Zf7 (P.underlying T) (P.underlying U) (tyi P U) (tyi P (tyi P U).elem) (S.ev x)).1/\Zab P own all rest (S.app dst (Zf7 (P.underlying T) (P.underlying U) (tyi P U) (tyi P (tyi P U).elem) (S.ev x)).2) ((Zf7 (P.underlying T) (P.underlying U) (tyi P U) (tyi P (tyi P U).elem) (S.ev x)).2.foot::fs) K):=Eq.trans rfl rfl
@[go_sem] theorem ZAL {T:TypeId}{x i:Operand}:Zab P own all (⟨dst, .index T x i,ty,pos,af,none⟩::rest) S fs K=
  ((Zf4 (tyi P T) (S.ev x) (S.ev i)).1/\Zab P own all rest (S.app dst (Zf4 (tyi P T) (S.ev x) (S.ev i)).2) ((Zf4 (tyi P T) (S.ev x) (S.ev i)).2.foot::fs) K):=Eq.trans rfl rfl
@[go_sem] theorem ZA0 {T:TypeId}{x:Operand}{lo hi mx:Option Operand}:Zab P own all (⟨dst, .slice T x lo hi mx,ty,pos,af,none⟩::rest) S fs K=
  ((Zgh (tyi P T) (P.cellsOf (tyi P T).elem) (S.ev x) (lo.map S.ev) (hi.map S.ev) (mx.map S.ev)).1/\Zab P own all rest (S.app dst (Zgh (tyi P T) (P.cellsOf (tyi P T).elem) (S.ev x) (lo.map S.ev) (hi.map S.ev) (mx.map S.ev)).2) ((Zgh (tyi P T) (P.cellsOf (tyi P T).elem) (S.ev x) (lo.map S.ev) (hi.map S.ev) (mx.map S.ev)).2.foot::fs) K):=Eq.trans rfl rfl
@[go_sem] theorem ZAT {T:TypeId}{l c:Operand}:Zab P own all (⟨dst, .makeSlice T l c,ty,pos,af,none⟩::rest) S fs K=
  ((Zfy (tyi P T) (tyi P (tyi P T).elem) S.objs dst (S.ev l) (S.ev c)).1/\Zab P own all rest (S.app dst (Zfy (tyi P T) (tyi P (tyi P T).elem) S.objs dst (S.ev l) (S.ev c)).2) ((Zfy (tyi P T) (tyi P (tyi P T).elem) S.objs dst (S.ev l) (S.ev c)).2.foot::fs) K):=Eq.trans rfl rfl
@[go_sem] theorem ZAQ {fn:Fn}{fi ca:Array Operand}:Zab P own all (⟨dst, .makeFunc fn fi ca,ty,pos,af,none⟩::rest) S fs K=
  ((Zge fn (fi.toList.map S.ev) (ca.toList.map S.ev)).1/\Zab P own all rest (S.app dst (Zge fn (fi.toList.map S.ev) (ca.toList.map S.ev)).2) ((Zge fn (fi.toList.map S.ev) (ca.toList.map S.ev)).2.foot::fs) K):=Eq.trans rfl rfl
@[go_sem] theorem ZAX {x:Operand}:Zab P own all (⟨dst, .nilCheck x,ty,pos,af,none⟩::rest) S fs K=
  ((Zgf (S.ev x)).1/\Zab P own all rest (S.app dst (Zgf (S.ev x)).2) ((Zgf (S.ev x)).2.foot::fs) K):=Eq.trans rfl rfl
@[go_sem] theorem ZAS {T:TypeId}:Zab P own all (⟨dst, .makeMap T none,ty,pos,af,none⟩::rest) S fs K=
  ((ZdO (tyi P T) S.objs dst).1/\Zab P own all rest (S.app dst (ZdO (tyi P T) S.objs dst).2) ((ZdO (tyi P T) S.objs dst).2.foot::fs) K):=Eq.trans rfl rfl
@[go_sem] theorem ZAU {T:TypeId}{m k v:Operand}:Zab P own all (⟨dst, .mapUpdate T m k v,ty,pos,af,none⟩::rest) S fs K=
  ((ZdP (tyi P T) S.objs (S.ev m) (S.ev k) (S.ev v)).1/\Zab P own all rest (S.app dst (ZdP (tyi P T) S.objs (S.ev m) (S.ev k) (S.ev v)).2) ((ZdP (tyi P T) S.objs (S.ev m) (S.ev k) (S.ev v)).2.foot::fs) K):=Eq.trans rfl rfl
@[go_sem] theorem ZAP {T:TypeId}{m k:Operand}:Zab P own all (⟨dst, .lookup T m k false,ty,pos,af,none⟩::rest) S fs K=
  ((ZdN (tyi P T) S.objs (S.ev m) (S.ev k)).1/\Zab P own all rest (S.app dst (ZdN (tyi P T) S.objs (S.ev m) (S.ev k)).2) ((ZdN (tyi P T) S.objs (S.ev m) (S.ev k)).2.foot::fs) K):=Eq.trans rfl rfl
@[go_sem] theorem ZAZ {T:TypeId}{x:Operand}:Zab P own all (⟨dst, .range T x,ty,pos,af,none⟩::rest) S fs K=
  ((ZdQ (tyi P T) S.objs dst (S.ev x)).1/\Zab P own all rest (S.app dst (ZdQ (tyi P T) S.objs dst (S.ev x)).2) ((ZdQ (tyi P T) S.objs dst (S.ev x)).2.foot::fs) K):=Eq.trans rfl rfl
@[go_sem] theorem ZAH {x:Operand}:Zab P own all (⟨dst, .entry x,ty,pos,af,none⟩::rest) S fs K=
  ((ZdM S.objs (S.ev x)).1/\Zab P own all rest (S.app dst (ZdM S.objs (S.ev x)).2) ((ZdM S.objs (S.ev x)).2.foot::fs) K):=Eq.trans rfl rfl
@[go_sem] theorem ZAI {x:Operand}{i:Nat}:Zab P own all (⟨dst, .extract x i,ty,pos,af,none⟩::rest) S fs K=
  ((Zf8 (S.ev x) i).1/\Zab P own all rest (S.app dst (Zf8 (S.ev x) i).2) ((Zf8 (S.ev x) i).2.foot::fs) K):=Eq.trans rfl rfl
@[go_sem] theorem ZAF {b:Builtin}{as:Array Operand}{tys:Array TypeId}:Zab P own all (⟨dst, .call ⟨.builtin b,as,tys⟩,ty,pos,af,none⟩::rest) S fs K=
  ((ZdL P S.objs dst b tys.toList (as.toList.map S.ev)).1/\Zab P own all rest (S.app dst (ZdL P S.objs dst b tys.toList (as.toList.map S.ev)).2) ((ZdL P S.objs dst b tys.toList (as.toList.map S.ev)).2.foot::fs) K):=Eq.trans rfl rfl
theorem Zqt {f:Operand}{as:Array Operand}{tys:Array TypeId}(r:D)(h:ZhQ P S.objs (S.ev f) (as.toList.map S.ev) r)
  (hk:Zab P own all rest (S.put dst (.d r)) (((as.toList.map S.ev).flatMap (PV.refs S.objs 4),[])::fs) K):
  Zab P own all (⟨dst, .call ⟨.value f,as,tys⟩,ty,pos,af,none⟩::rest) S fs K:= .inl ⟨r,h,hk⟩
theorem Zqu {f:Operand}{as:Array Operand}{tys:Array TypeId}(e:Eff)(h:CallCondM P S.objs (S.ev f) (as.toList.map S.ev) e)(hk:Zab P own all rest (S.app dst e) (e.foot::fs) K):
  Zab P own all (⟨dst, .call ⟨.value f,as,tys⟩,ty,pos,af,none⟩::rest) S fs K:= .inr ⟨e,h,hk⟩
def wpG (P:Program)(own:Nat->Bool)(all:List Oper)(_t:Option Nat)(g:Option (Option Bool))(want:Bool)(o:Oper)(rest:List Oper)(S:St)(fs:List Za9)(K:St->List Za9->Prop):Prop:=match g with
 |some g=>if g=some want then Zab P own all (o::rest) S fs K else Zab P own all rest (S.put o.dst .und) (([],[])::fs) K
 |none=>False
variable {t:Option Nat}{o:Oper}{w:Bool}
@[go_sem] theorem ZCx :wpG P own all t (some (some true)) true o rest S fs K=Zab P own all (o::rest) S fs K:=Eq.trans rfl rfl
@[go_sem] theorem ZCt :wpG P own all t (some (some false)) false o rest S fs K=Zab P own all (o::rest) S fs K:=Eq.trans rfl rfl
@[go_sem] theorem ZCw :wpG P own all t (some (some true)) false o rest S fs K=Zab P own all rest (S.put o.dst .und) (([],[])::fs) K:=Eq.trans rfl rfl
@[go_sem] theorem ZCu :wpG P own all t (some (some false)) true o rest S fs K=Zab P own all rest (S.put o.dst .und) (([],[])::fs) K:=Eq.trans rfl rfl
@[go_sem] theorem ZCv :wpG P own all t (some none) w o rest S fs K=Zab P own all rest (S.put o.dst .und) (([],[])::fs) K:=Eq.trans rfl rfl
@[go_sem] theorem ZAK {op:Op}{j:Nat}{want:Bool}:Zab P own all (⟨dst,op,ty,pos,af,some (j,want)⟩::rest) S fs K=
  wpG P own all ((all[j]?).bind (·.dst)) (grd all S j) want ⟨dst,op,ty,pos,af,none⟩ rest S fs K:=Eq.trans rfl rfl
theorem ZbF {T:Option Nat}{u:Nat}{want b:Bool}(hT:T=some u)(he:S.env u= .d (.sc (.bool b)))
  (h1:b=true->wpG P own all none (some (some true)) want o rest ⟨upd u (.d (.sc (.bool true))) S.env,S.objs⟩ fs K)
  (h2:b=false->wpG P own all none (some (some false)) want o rest ⟨upd u (.d (.sc (.bool false))) S.env,S.objs⟩ fs K):
  wpG P own all T (some (some b)) want o rest S fs K:=by
 have e:∀c,b=c->(⟨upd u (.d (.sc (.bool c))) S.env,S.objs⟩:St)=S:=by
  rintro c rfl;have:upd u (.d (.sc (.bool b))) S.env=S.env:=by
   funext i
   by_cases hi:i=u
   ·subst hi;rw[upd,if_pos rfl,he]
   ·rw[upd,if_neg hi]
  rw[this]
 cases b
 ·have:=h2 rfl;rw[e false rfl]at this;exact this
 ·have:=h1 rfl;rw[e true rfl]at this;exact this
@[go_sem] theorem ZAu {env:Nat->PV}{objs:Nat->Ob}{t:Nat}{x:PV}:(St.mk env objs).put (some t) x=⟨upd t x env,objs⟩:=rfl
@[go_sem] theorem ZAv {S:St}{x:PV}:S.put none x=S:=rfl
@[go_sem] theorem ZAo {env:Nat->PV}{objs:Nat->Ob}{t:Nat}:(St.mk env objs).ev (.tmp t)=env t:=rfl
@[go_sem] theorem ZAk {env:Nat->PV}{objs:Nat->Ob}{f:Nat}:(St.mk env objs).ev (.func f)= .d (.fn f []):=rfl
@[go_sem] theorem ZAl {env:Nat->PV}{objs:Nat->Ob}{k:IntKind}{n:Int}:(St.mk env objs).ev (.const (.int k n))= .d (.sc (.int k n)):=rfl
@[go_sem] theorem ZAj {env:Nat->PV}{objs:Nat->Ob}{b:Bool}:(St.mk env objs).ev (.const (.bool b))= .d (.sc (.bool b)):=rfl
@[go_sem] theorem ZAn {env:Nat->PV}{objs:Nat->Ob}{s:ByteArray}:(St.mk env objs).ev (.const (.string s))= .d (.sc (.string s)):=rfl
@[go_sem] theorem ZAm {env:Nat->PV}{objs:Nat->Ob}:(St.mk env objs).ev (.const (.slice none 0 0))= .nilS:=rfl
@[go_sem] theorem ZAi {env:Nat->PV}{objs:Nat->Ob}{cs:Array Value}:(St.mk env objs).ev (.const (.agg cs))= .ag (cs.toList.map ZeN):=rfl
@[go_sem] theorem Zz7 {env:Nat->PV}{objs:Nat->Ob}{t:Nat}{x:PV}{wr:List (Nat×Ob)}{rd:List Nat}:(St.mk env objs).app (some t) ⟨x,wr,rd⟩=⟨upd t x env,wrs wr objs⟩:=rfl
@[go_sem] theorem Zz8 {env:Nat->PV}{objs:Nat->Ob}{x:PV}{wr:List (Nat×Ob)}{rd:List Nat}:(St.mk env objs).app none ⟨x,wr,rd⟩=⟨env,wrs wr objs⟩:=rfl
@[go_sem] theorem ZCz {objs:Nat->Ob}:wrs [] objs=objs:=rfl
@[go_sem] theorem ZCy {objs:Nat->Ob}{o:Nat}{ob:Ob}{r:List (Nat×Ob)}:wrs ((o,ob)::r) objs=upd o ob (wrs r objs):=rfl
@[go_sem] theorem ZAp {x:PV}{wr:List (Nat×Ob)}{rd:List Nat}:Eff.foot ⟨x,wr,rd⟩=(rd,wr.map (·.1)):=rfl
@[go_sem] theorem ZCs {α:Type}{i:Nat}{x:α}{f:Nat->α}:upd i x f i=x:=if_pos rfl
@[go_sem] theorem ZCr {α:Type}{i j:Nat}{x:α}{f:Nat->α}:upd i x f j=if j=i then x else f j:=rfl
@[go_sem] theorem ZAd {v:Value}:(PV.d (.sc v)).cells?=some [.d (.sc v)]:=rfl
@[go_sem] theorem ZAa {cs:List D}:(PV.d (.ag cs)).cells?=some (cs.map .d):=rfl
@[go_sem] theorem ZAe {l:List D}:(PV.d (.sl l)).cells?=some [.d (.sl l)]:=rfl
@[go_sem] theorem ZAc {l:List D}:(PV.d (.pt l)).cells?=some [.d (.pt l)]:=rfl
@[go_sem] theorem ZAb {f:FuncId}{l:List D}:(PV.d (.fn f l)).cells?=some [.d (.fn f l)]:=rfl
@[go_sem] theorem Zz9 {cs:List PV}:(PV.ag cs).cells?=some cs:=rfl
@[go_sem] theorem ZAh {o sz off len cap:Nat}:(PV.ref o sz off len cap).cells?=some [.ref o sz off len cap]:=rfl
@[go_sem] theorem ZAg {o sz i c:Nat}:(PV.ptr o sz i c).cells?=some [.ptr o sz i c]:=rfl
@[go_sem] theorem ZAf :PV.nilS.cells?=some [.nilS]:=rfl
attribute [go_sem] D.cells PV.agg? PV.asD ZeN ldD ldP Zev mkD ZiR Zhj Zd0 Zd1 Zg7 Zf4 Zf7 ZeQ ZcO ZbN ZlN Zfx Zfw Zcz ZdR Zf9 Zgc Zf5 Zgi Zgg Zf8 Zgh Zfy ZgP Zgf Zgb Zf3 ZhD Zga Zge ZdK Zlu Zik ZiC Zdg Zgz Ze3 Zgd ZdO ZdP ZdN ZdQ ZdM Zd2 ZiT Zmv Zf6 Ze4 ZdL Zbx Zb9 Zfe D.notTup D.ofCells cellD grd toD PV.refs
attribute [go_sem] Zub Zfi PV.frz PV.frzL Ob.frz PV.ren PV.renL Ob.ren Zb8 ZfI true_or or_true Option.isSome_some
attribute [go_sem] Bp yY Bh Bq qS Cf uX yT uV uY uE yO gF jM Ai gE List.mapM_nil jT List.all_cons List.all_nil List.head?_cons
 yV Aq yQ Option.bind_some Option.bind_none Option.pure_def Option.bind_eq_bind uZ uQ uI As jW jV zX kU Br
 if_true jE true_and and_true Bx qB ne_eq not_false_eq_true not_true_eq_false Bool.not_true Cj kK Bool.and_true Ck Bool.and_false Cd Bu List.mem_nil_iff yH kI false_implies implies_true forall_const or_false or_true false_or
@[go_sem low] theorem ZA5 {α:Type}{cs:List α}{off:Nat}{xs:List α}:ZbE cs off xs=cs.take off++xs++cs.drop (off+xs.length):=rfl
def Zg4 (objs:Nat->Ob)(dst:Option Nat)(st xt ety:TyI)(s x:PV)(xs:Option (List D)):CE:=
 match xs,dst with
 |some xs,some t=>
  match s with
  | .ref o sz off len _=>match objs o with
   | .row sz' l=>(st.kind=1/\xt.kind=1/\ety.zok=true/\ety.bytes<=128/\(∀d,d∈xs->d.cells.length=ety.size)/\objs t= .dead/\sz=ety.size/\sz=sz'/\off=0/\len<=l.length/\roomy (len+xs.length),
     {val:= .ref t sz 0 (len+xs.length) (len+xs.length),wr:=[(t, .row sz' (l.take len++xs)),(o, .gone)],rd:=Zb9 x})
   |_=> .no
  | .nilS=>(st.kind=1/\xt.kind=1/\ety.zok=true/\ety.bytes<=128/\(∀d,d∈xs->d.cells.length=ety.size)/\objs t= .dead/\roomy xs.length,
     {val:= .ref t ety.size 0 xs.length xs.length,wr:=[(t, .row ety.size xs)],rd:=Zb9 x})
  | .z0=>(st.kind=1/\xt.kind=1/\ety.zok=true/\ety.bytes<=128/\(∀d,d∈xs->d.cells.length=ety.size)/\objs t= .dead/\roomy xs.length,
     {val:= .ref t ety.size 0 xs.length xs.length,wr:=[(t, .row ety.size xs)],rd:=Zb9 x})
  |_=> .no
 |_,_=> .no
def ZkC (objs:Nat->Ob)(t:Nat)(st xt ety:TyI)(o sz off len:Nat)(xs:List D)(x:PV):Ob->CE
 | .row sz' l=>(st.kind=1/\xt.kind=1/\ety.zok=true/\ety.bytes<=128/\(∀d,d∈xs->d.cells.length=ety.size)/\objs t= .dead/\sz=ety.size/\sz=sz'/\off=0/\len<=l.length/\roomy (len+xs.length),
     {val:= .ref t sz 0 (len+xs.length) (len+xs.length),wr:=[(t, .row sz' (l.take len++xs)),(o, .gone)],rd:=Zb9 x})
 |_=> .no
@[go_sem] theorem ZA4 {objs:Nat->Ob}{dst:Option Nat}{st xt ety:TyI}{s x:PV}:Zdc objs dst st xt ety s x=Zg4 objs dst st xt ety s x (Zbx objs x):=by
 unfold Zdc Zg4;rfl
@[go_sem] theorem Zz4 {objs:Nat->Ob}{t:Nat}{st xt ety:TyI}{o sz off len cap:Nat}{x:PV}{xs:List D}:Zg4 objs (some t) st xt ety (.ref o sz off len cap) x (some xs)=ZkC objs t st xt ety o sz off len xs x (objs o):=by
 simp only[Zg4,ZkC]
@[go_sem] theorem Zz6 {objs:Nat->Ob}{t:Nat}{st xt ety:TyI}{o sz sz' off len:Nat}{x:PV}{xs l:List D}:ZkC objs t st xt ety o sz off len xs x (.row sz' l)=
  (st.kind=1/\xt.kind=1/\ety.zok=true/\ety.bytes<=128/\(∀d,d∈xs->d.cells.length=ety.size)/\objs t= .dead/\sz=ety.size/\sz=sz'/\off=0/\len<=l.length/\roomy (len+xs.length),
     {val:= .ref t sz 0 (len+xs.length) (len+xs.length),wr:=[(t, .row sz' (l.take len++xs)),(o, .gone)],rd:=Zb9 x}):=rfl
@[go_sem] theorem Zz3 {objs:Nat->Ob}{t:Nat}{st xt ety:TyI}{x:PV}{xs:List D}:Zg4 objs (some t) st xt ety .nilS x (some xs)=
  (st.kind=1/\xt.kind=1/\ety.zok=true/\ety.bytes<=128/\(∀d,d∈xs->d.cells.length=ety.size)/\objs t= .dead/\roomy xs.length,
     {val:= .ref t ety.size 0 xs.length xs.length,wr:=[(t, .row ety.size xs)],rd:=Zb9 x}):=rfl
@[go_sem] theorem Zz5 {objs:Nat->Ob}{t:Nat}{st xt ety:TyI}{x:PV}{xs:List D}:Zg4 objs (some t) st xt ety .z0 x (some xs)=
  (st.kind=1/\xt.kind=1/\ety.zok=true/\ety.bytes<=128/\(∀d,d∈xs->d.cells.length=ety.size)/\objs t= .dead/\roomy xs.length,
     {val:= .ref t ety.size 0 xs.length xs.length,wr:=[(t, .row ety.size xs)],rd:=Zb9 x}):=rfl
end rules
end Go.PS
