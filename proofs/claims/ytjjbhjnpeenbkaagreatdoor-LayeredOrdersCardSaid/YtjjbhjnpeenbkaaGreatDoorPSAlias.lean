/- Short names of library theorems that are used often. -/
import Derived.WalkKit
import Derived.KernelRfl
set_option linter.unusedSimpArgs false
set_option linter.unusedVariables false
set_option maxHeartbeats 16000000
namespace Go
theorem xA {p:Prop}(h:p:=by omega):p:=h
theorem xB {p:Prop}(h:p:=by simp):p:=h
theorem xC {p:Prop}(h:p:=by decide):p:=h
theorem xD {p:Prop}(h:p:=by kernel_rfl):p:=h
abbrev uA.{u}:= @List.mem_of_getElem?.{u}
abbrev uB.{u}:= @List.getElem?_eq_some_iff.{u}
abbrev uC.{u,v}:= @List.length_map.{u,v}
abbrev uD := @Nat.lt_or_ge
abbrev uE.{u}:= @List.take_of_length_le.{u}
abbrev uF := @Nat.zero_le
abbrev uG := @decide_eq_true_eq
abbrev uH.{u}:= @List.length_append.{u}
abbrev uI := @Nat.le_refl
abbrev uJ.{u,v}:= @List.getElem?_map.{u,v}
abbrev uK := @Int.toNat_natCast
abbrev uL.{u}:= @List.getElem?_eq_none.{u}
abbrev uM.{u}:= @List.forall_mem_cons.{u}
abbrev uN := @Bool.and_eq_true
abbrev uO.{u,v}:= @List.map_append.{u,v}
abbrev uP.{u}:= @List.mem_cons_of_mem.{u}
abbrev uQ := @Nat.le_of_ble_eq_true
abbrev uR.{u,v}:= @List.mem_map.{u,v}
abbrev uS.{u,v}:= @List.map_cons.{u,v}
abbrev uT.{u}:= @List.getElem?_eq_getElem.{u}
abbrev uU.{u}:= @List.length_nil.{u}
abbrev uV.{u}:= @List.length_cons.{u}
abbrev uW := @decide_eq_false
abbrev uX.{u}:= @List.mem_singleton.{u}
abbrev uY.{u,v}:= @List.map_nil.{u,v}
abbrev uZ := @decide_eq_true
abbrev yA.{u}:= @List.length_take.{u}
abbrev yB.{u}:= @List.forall_mem_nil.{u}
abbrev yC.{u}:= @Array.getElem?_eq_getElem.{u}
abbrev yD := @List.mem_range
abbrev yE.{u}:= @List.take_length.{u}
abbrev yF.{u}:= @List.all_eq_true.{u}
abbrev yH.{u}:= @List.length_replicate.{u}
abbrev yI.{u}:= @List.mem_cons.{u}
abbrev yJ.{u}:= @List.length_set.{u}
abbrev yK.{u,v}:= @List.map_congr_left.{u,v}
abbrev yL := @Bool.not_eq_true'
abbrev yM.{u}:= @Option.some.injEq.{u}
abbrev yN.{u}:= @Option.getD_some.{u}
abbrev yO.{u}:= @List.length_singleton.{u}
abbrev yP.{u}:= @List.mem_append.{u}
abbrev yQ.{u}:= @List.take_zero.{u}
abbrev yR := @Nat.mul_le_mul_right
abbrev yS.{u}:= @List.append_nil.{u}
abbrev yT.{u,v}:= @List.map_replicate.{u,v}
abbrev yU := @Nat.zero_add
abbrev yV.{u}:= @List.contains_eq_mem.{u}
abbrev yW.{u,v}:= @List.map_set.{u,v}
abbrev yX.{u}:= @List.ext_getElem?.{u}
abbrev yY.{u}:= @List.append_eq.{u}
abbrev yZ := @List.getElem?_range
abbrev qA.{u}:= @List.getElem?_of_mem.{u}
abbrev qB.{u,v}:= @Option.map_some.{u,v}
abbrev qC.{u}:= @List.mem_iff_getElem?.{u}
abbrev qD.{u}:= @List.drop_zero.{u}
abbrev qE := @List.range_succ
abbrev qF.{u}:= @List.getElem?_set.{u}
abbrev qG.{u}:= @List.append_assoc.{u}
abbrev qH.{u}:= @List.any_eq_false.{u}
abbrev qI.{u}:= @List.nodup_cons.{u}
abbrev qJ := @decide_eq_false_iff_not
abbrev qK := @Bool.false_eq_true
abbrev qL.{u}:= @List.getElem?_append_right.{u}
abbrev qM.{u,v}:= @List.flatMap_cons.{u,v}
abbrev qN := @Nat.add_mul
abbrev qO := @Nat.eq_zero_or_pos
abbrev qP := @Nat.lt_succ_iff_lt_or_eq
abbrev qQ := @Int.natCast_add
abbrev qR := @Int.le_refl
abbrev qS.{u}:= @List.getElem?_take.{u}
abbrev qT.{u}:= @List.eq_nil_of_length_eq_zero.{u}
abbrev qU.{u}:= @Array.getD_eq_getD_getElem?.{u}
abbrev qV.{u}:= @List.drop_eq_getElem_cons.{u}
abbrev qW := @Bool.eq_iff_iff
abbrev qX.{u}:= @List.mem_reverse.{u}
abbrev qY.{u}:= @Array.getElem?_toList.{u}
abbrev qZ.{u}:= @List.getElem?_append_left.{u}
abbrev gA.{u}:= @List.getElem?_replicate.{u}
abbrev gB.{u}:= @List.nil_append.{u}
abbrev gC.{u}:= @List.getElem?_drop.{u}
abbrev gE.{u}:= @List.isEmpty_nil.{u}
abbrev gH := @Classical.byContradiction
abbrev gI := @Bool.or_eq_true
abbrev gJ := @Decidable.em
abbrev gK.{u}:= @List.cons_append.{u}
abbrev gL.{u,v}:= @congrArg.{u,v}
abbrev gM.{u}:= @Array.getElem?_eq_some_iff.{u}
abbrev gN := @Int.natCast_one
abbrev gO.{u}:= @List.filter_append.{u}
abbrev gP.{u}:= @List.pairwise_append.{u}
abbrev gQ.{u}:= @List.length_eq_zero_iff.{u}
abbrev gR.{u}:= @List.take_append_drop.{u}
abbrev gS := @Nat.lt_of_lt_of_le
abbrev gT.{u}:= @List.mem_of_mem_take.{u}
abbrev gU.{u,v,w}:= @List.map_map.{u,v,w}
abbrev gV.{u}:= @List.not_mem_nil.{u}
abbrev gW.{u}:= @List.any_eq_true.{u}
abbrev gX := @Nat.add_zero
abbrev gY := @Nat.le_trans
abbrev gZ.{u}:= @Array.getElem?_append.{u}
abbrev jA.{u}:= @List.length_filter_le.{u}
abbrev jB.{u}:= @List.pairwise_iff_getElem.{u}
abbrev jC.{u}:= @List.getElem?_set_self.{u}
abbrev jD.{u}:= @List.idxOf_lt_length_of_mem.{u}
abbrev jE.{u}:= @List.sum_cons.{u}
abbrev jF := @Nat.min_eq_left
abbrev jG.{u,v}:= @List.foldl_cons.{u,v}
abbrev jH.{u}:= @if_false.{u}
abbrev jI.{u}:= @List.getD_eq_getElem?_getD.{u}
abbrev jJ.{u}:= @Array.mem_of_getElem?.{u}
abbrev jK := @Nat.sub_self
abbrev jL.{u}:= @List.getElem?_append.{u}
abbrev jM := @Int.add_zero
abbrev jN.{u}:= @List.getElem?_take_of_lt.{u}
abbrev jO.{u}:= @List.pairwise_flatten.{u}
abbrev jP := @Nat.zero_mul
abbrev jQ.{u}:= @List.getElem?_cons_succ.{u}
abbrev jR.{u}:= @List.length_drop.{u}
abbrev jS.{u}:= @List.mem_of_mem_drop.{u}
abbrev jT.{u}:= @List.getElem?_set_ne.{u}
abbrev jU := @Int.mul_le_mul_of_nonneg_left
abbrev jV.{u}:= @List.findIdx?_cons.{u}
abbrev jW := @Nat.mul_le_mul
abbrev jX := @List.range_zero
abbrev jY.{u}:= @List.findIdx?_eq_some_iff_getElem.{u}
abbrev jZ := @Bool.true_and
abbrev kA.{u}:= @Array.all_eq_true_iff_forall_mem.{u}
abbrev kB := @List.length_range
abbrev kC := @Nat.sub_zero
abbrev kD := @Int.tdiv_eq_ediv_of_nonneg
abbrev kH := @Int.add_assoc
abbrev kI.{u,v}:= @List.flatMap_nil.{u,v}
abbrev kJ.{u}:= @List.getElem_mem.{u}
abbrev kK.{u}:= @List.filter_cons.{u}
abbrev kL.{u}:= @List.mem_or_eq_of_mem_set.{u}
abbrev kQ.{u,v}:= @List.mem_map_of_mem.{u,v}
abbrev kS := @Nat.mul_one
abbrev kT.{u,v,w}:= @List.mapM_cons.{u,v,w}
abbrev kU.{u}:= @List.length_erase_of_mem.{u}
abbrev kV.{u}:= @List.filter_nil.{u}
abbrev kW.{u}:= @Option.isSome_some.{u}
abbrev kX.{u}:= @List.set_cons_zero.{u}
abbrev kY := @Bool.false_ne_true
abbrev kZ.{u}:= @List.drop_eq_nil_of_le.{u}
abbrev zA.{u}:= @List.size_toArray.{u}
abbrev zB := @List.pairwise_lt_range
abbrev zC.{u}:= @List.nodup_append.{u}
abbrev zD := @Int.le_trans
abbrev zE.{u,v}:= @List.flatMap_append.{u,v}
abbrev zF := @Nat.not_lt_zero
abbrev zG.{u}:= @List.getElem?_toArray.{u}
abbrev zH.{u,v}:= @Array.getElem?_map.{u,v}
abbrev zI := @List.nodup_range
abbrev zJ.{u,v}:= @List.mem_flatMap.{u,v}
abbrev zK.{u}:= @List.pairwise_cons.{u}
abbrev zL.{u}:= @List.nodup_nil.{u}
abbrev zM.{u}:= @List.reverse_reverse.{u}
abbrev zN := @Int.mul_add
abbrev zO := @Nat.pow_le_pow_right
abbrev zP := @Nat.lt_trichotomy
abbrev zQ.{u}:= @List.pairwise_singleton.{u}
abbrev zR.{u}:= @Array.getElem?_setIfInBounds.{u}
abbrev zS.{u}:= @List.replicate_succ.{u}
abbrev zT.{u}:= @List.append_toArray.{u}
abbrev zU.{u}:= @List.length_pos_of_mem.{u}
abbrev zV := @Nat.testBit_lt_two_pow
abbrev zW := @Nat.add_assoc
abbrev zX.{u}:= @List.mem_flatten.{u}
abbrev zY := @Bool.and_false
abbrev zZ.{u}:= @beq_iff_eq.{u}
abbrev Aa.{u}:= @Array.getElem?_append_left.{u}
abbrev Ab.{u}:= @List.getElem_idxOf.{u}
abbrev Ac.{u}:= @List.eq_replicate_iff.{u}
abbrev Ad.{u}:= @List.mem_erase_of_ne.{u}
abbrev Ae.{u}:= @Array.replicate_succ.{u}
abbrev Af.{u}:= @Array.replicate_zero.{u}
abbrev Ag.{u}:= @List.eq_of_mem_replicate.{u}
abbrev Ah := @eq_iff_iff
abbrev Ai.{u,v}:= @List.map_take.{u,v}
abbrev Aj.{u}:= @Array.getElem?_setIfInBounds_ne.{u}
abbrev Ak.{u}:= @List.drop_succ_cons.{u}
abbrev Am.{u}:= @List.flatten_append.{u}
abbrev An.{u}:= @List.length_pos_iff.{u}
abbrev Ao := @Bool.false_and
abbrev Ap.{u}:= @List.isEmpty_iff.{u}
abbrev Aq := @Int.mul_le_mul_of_nonneg_right
abbrev Ar := @Bool.toNat_false
abbrev As.{u}:= @List.set_cons_succ.{u}
abbrev Au := @decide_false
abbrev Av := @Nat.add_sub_cancel
abbrev Aw := @Bool.not_eq_false'
abbrev Ax := @Int.mul_zero
abbrev Ay.{u}:= @List.mem_filter.{u}
abbrev Az.{u}:= @List.mem_append_right.{u}
abbrev Ba := @Classical.not_not
abbrev Bb := @of_decide_eq_true
abbrev Bc.{u,v}:= @List.foldl_append.{u,v}
abbrev Be.{u}:= @List.push_toArray.{u}
abbrev Bf.{u}:= @List.flatten_cons.{u}
abbrev Bg.{u}:= @Array.getElem?_setIfInBounds_self_of_lt.{u}
abbrev Bh.{u,v}:= @List.foldl_nil.{u,v}
abbrev Bi.{u}:= @List.perm_ext_iff_of_nodup.{u}
abbrev Bj := @Nat.eq_of_testBit_eq
abbrev Bk := @Nat.pow_lt_pow_right
abbrev Bl.{u}:= @List.perm_middle.{u}
abbrev Bm := @Bool.or_true
abbrev Bo := @decide_eq_decide
abbrev Bp := @Bool.not_eq_true
abbrev Bq := @Int.lt_or_le
abbrev Br := @Decidable.byContradiction
abbrev Bt.{u}:= @List.findIdx?_eq_none_iff.{u}
abbrev Bu.{u}:= @List.take_succ_cons.{u}
abbrev Bv.{u}:= @Array.length_toList.{u}
abbrev Bw.{u,v}:= @Prod.mk.injEq.{u,v}
abbrev By.{u}:= @List.Perm.eq_of_pairwise.{u}
abbrev Bz := @Int.mul_assoc
abbrev Ca.{u,v}:= @Option.map_none.{u,v}
abbrev Cb.{u}:= @List.sum_append.{u}
abbrev Cc.{u}:= @List.getElem?_cons_zero.{u}
abbrev Cd.{u,v}:= @List.flatMap_eq_nil_iff.{u,v}
abbrev Ce := @Nat.add_sub_cancel_left
abbrev Cf := @Bool.not_false
abbrev Cg := @Bool.eq_false_iff
abbrev Ch.{u}:= @List.Perm.refl.{u}
abbrev Ci.{u}:= @List.all_eq_false.{u}
abbrev Cj := @Nat.zero_testBit
abbrev Ck := @Int.natCast_zero
abbrev Cm := @Nat.lt_succ_self
abbrev Cn := @Bool.false_or
abbrev Co := @decide_true
abbrev Cp := @or_false
abbrev Cq.{u}:= @List.Pairwise.filter.{u}
abbrev Cr.{u}:= @List.mem_append_left.{u}
abbrev Cs.{u}:= @List.idxOf_cons_self.{u}
abbrev Ct.{u}:= @Option.some.inj.{u}
abbrev Cu.{u}:= @List.set_append.{u}
abbrev Cv.{u}:= @List.replicate_zero.{u}
abbrev Cw.{u}:= @List.filter_eq_self.{u}
abbrev Cx := @Nat.mul_comm
abbrev Cz.{u}:= @List.sum_nil.{u}
abbrev Da := @Nat.testBit_two_pow_sub_one
abbrev Db := @Bool.true_or
abbrev Dc := @and_self
abbrev De.{u}:= @bne_iff_ne.{u}
abbrev Df.{u}:= @Array.empty_append.{u}
abbrev Dg := @Int.add_sub_cancel
abbrev Dh.{u}:= @Option.isSome_none.{u}
abbrev Di := @Nat.lt_add_one
abbrev Dj := @Int.sub_eq_add_neg
abbrev Dl := @Bool.not_true
abbrev Dm := @Nat.mod_eq_of_lt
abbrev Dn := @iff_false
abbrev Do := @Nat.mod_lt
abbrev Dp := @Int.mul_comm
abbrev Dq := @Nat.ne_of_lt
abbrev Dr := @Int.le_of_lt
abbrev Ds := @true_and
abbrev Dt := @Nat.one_mul
abbrev Du := @Int.mul_nonneg
abbrev Dv := @and_true
end Go
namespace Go.PS
open Go
inductive D where
 |sc (v:Value)
 |ag (cs:List D)
 |sl (l:List D)
 |tup (vs:List D)
 |pt (cs:List D)
 |fn (f:FuncId) (caps:List D)
def D.cells :D->List D
 | .ag Y=>Y
 | .sc v=>[.sc v]
 | .sl l=>[.sl l]
 | .tup X=>[.tup X]
 | .pt Y=>[.pt Y]
 | .fn f Z=>[.fn f Z]
abbrev D.int (n:Int):D:= .sc (.int .i64 n)
abbrev D.bool (b:Bool):D:= .sc (.bool b)
inductive PV where
 |d (x:D)
 |ref (o sz off len cap:Nat)
 |ptr (o sz i c:Nat)
 |nilS
 |z0
 |ag (cs:List PV)
 |tup (vs:List PV)
 |fn (f:FuncId) (caps:List PV)
 |unk
 |und
 |ab
 |mp (o:Nat)
 |ifp (T o:Nat)
abbrev PV.int (n:Int):PV:= .d (.sc (.int .i64 n))
abbrev PV.bool (b:Bool):PV:= .d (.sc (.bool b))
inductive Ob where
 |dead
 |gone
 |cells (cs:List PV)
 |row (sz:Nat) (l:List D)
 |imap (l:List (Int×Int))
 |iter (m k:Nat) (sn:List Nat)
structure St where
 env:Nat->PV
 objs:Nat->Ob
def upd {Z:Type}(i:Nat)(x:Z)(f:Nat->Z):Nat->Z:=λ j=>if j=i then x else f j
def lF :Value->PV
 | .slice none 0 0=> .nilS
 |v=> .d (.sc v)
def K1 :Value->PV
 | .agg Z=> .ag (Z.toList.map lF)
 |v=>lF v
def St.ev (S:St):Operand->PV
 | .tmp t=>S.env t
 | .const v=>K1 v
 | .global _=> .unk
 | .func f=> .d (.fn f [])
def PV.cells? :PV->Option (List PV)
 | .d (.tup _)=>none
 | .d x=>some (x.cells.map .d)
 | .ag X=>some X
 | .tup _=>none
 | .unk=>none
 | .und=>none
 | .ab=>none
 | .ref o s Y len cap=>some [.ref o s Y len cap]
 | .ptr o s i c=>some [.ptr o s i c]
 | .nilS=>some [.nilS]
 | .z0=>some [.z0]
 | .fn f Z=>some [.fn f Z]
 | .mp o=>some [.mp o]
 | .ifp T o=>some [.ifp T o]
structure TyI where
 size:Nat
 agg:Bool
 zero:List Value
 elem:TypeId
 len:Nat
 kind:Nat
 fields:List (Nat×TypeId)
 bytes:Nat
 ok:Bool
 zok:Bool
 peq:Bool
 places:List (Nat×Nat)
 bok:Bool
 bk:Bool
def sa (P:Program):Nat->List Field->Bool
 |_,[]=>true
 |n,f::Z=>f.name != "_" &&f.offset==n&&(match P.underlying f.type with|some (.int _)=>true|_=>false)&&sa P (n+1) Z
def FA (P:Program)(k e:TypeId):Bool:=
 (match P.underlying k with|some (.int .i64)=>true|_=>false)&&(match P.info? e with|some i=>(match i.zero with|some (.int .i64 0)=>true|_=>false)|none=>false)
def tyi (P:Program)(t:TypeId):TyI:=
 {size:=P.cellsOf t
  agg:=match P.underlying t with|some (.struct _)=>true|some (.array _ _)=>true|_=>false
  zero:=match P.info? t with|some i=>(match i.zero with|some z=>z.cells.toList|none=>[])|none=>[]
  elem:=match P.underlying t with|some (.slice e)=>e|some (.array _ e)=>e|some (.pointer e)=>e|_=>0
  len:=match P.underlying t with|some (.array n _)=>n|_=>0
  kind:=match P.underlying t with|some (.slice _)=>1|some (.array _ _)=>2|some (.struct _)=>3|some (.pointer _)=>4|some .bool=>6|some (.int _)=>5|some .string=>8|some (.map k e)=>(if FA P k e=true then 7 else 0)|_=>0
  fields:=match P.underlying t with|some (.struct Z)=>Z.toList.map λ f=>(f.offset,f.type)|_=>[]
  bytes:=P.bytesOf t
  ok:=(P.underlying t).isSome
  zok:=match P.info? t with|some i=>(match i.zero with|some z=>z.cells.size==P.cellsOf t&&z.cells.all Value.oneCell'&&P.cellsOf t != 0&&(P.cellsOf t==1||(match P.underlying t with|some (.struct _)=>true|some (.array _ _)=>true|_=>false))|none=>false)|none=>false
  peq:=match P.underlying t with|some (.struct Z)=>sa P 0 Z.toList&& !P.stoodInHeld t&& !P.eqGuardType P.depth t&&Z.size==P.cellsOf t|_=>false
  places:=match P.underlying t with|some (.struct Z)=>((Z.toList.mapM λ f=>(P.info? f.type).map λ i=>(f.offset,i.size)).getD [])|_=>[]
  bok:=match P.underlying t with|some (.struct Z)=>(Z.toList.mapM λ f=>(P.info? f.type).map λ i=>(f.offset,i.size)).isSome|_=>false
  bk:=match P.underlying t with|some (.int .u8)=>true|_=>false}
def dI {Z:Type}(cs:List Z)(off:Nat)(xs:List Z):List Z:=cs.take off++xs++cs.drop (off+xs.length)
def toD (objs:Nat->Ob):Nat->PV->Option D
 |0,_=>none
 |_+1, .d x=>some x
 |_+1, .nilS=>some (.sl [])
 |_+1, .z0=>some (.sl [])
 |_+1, .unk=>none
 |_+1, .und=>none
 |_+1, .ab=>none
 |_+1, .mp _=>none
 |_+1, .ifp _ _=>none
 |n+1, .ref o X Y len _=>match objs o with
  | .row s l=>if X=s/\Y+len<=l.length then some (.sl ((l.drop Y).take len))else none
  | .cells Z=>if X=1/\Y+len<=Z.length then(((Z.drop Y).take len).mapM (toD objs n)).map .sl else none
  |_=>none
 |n+1, .ptr o _ i c=>match objs o with
  | .cells Z=>if i=0/\c=0 then((Z.mapM (toD objs n)).map .pt)else none
  |_=>none
 |n+1, .ag Z=>(Z.mapM (toD objs n)).map .ag
 |n+1, .tup Z=>(Z.mapM (toD objs n)).map .tup
 |n+1, .fn f Z=>(Z.mapM (toD objs n)).map (.fn f)
def PV.refs (objs:Nat->Ob):Nat->PV->List Nat
 |0,_=>[]
 |n+1, .ref o _ Y len _=>match objs o with
  | .cells Z=>o::((Z.drop Y).take len).flatMap (PV.refs objs n)
  |_=>[o]
 |n+1, .ptr o _ _ _=>match objs o with
  | .cells Z=>o::Z.flatMap (PV.refs objs n)
  |_=>[o]
 |n+1, .ag Z=>Z.flatMap (PV.refs objs n)
 |n+1, .tup Z=>Z.flatMap (PV.refs objs n)
 |n+1, .fn _ Z=>Z.flatMap (PV.refs objs n)
 |_+1, .d _=>[]
 |_+1, .nilS=>[]
 |_+1, .z0=>[]
 |_+1, .unk=>[]
 |_+1, .und=>[]
 |_+1, .ab=>[]
 |_+1, .mp o=>[o]
 |_+1, .ifp _ o=>[o]
def D.flat :Nat->D->Bool
 |0,_=>false
 |n+1,x=>
  match x with
  | .sc _=>true
  | .ag Z| .tup Z=>Z.all (D.flat n)
  | .sl l=>l.isEmpty
  |_=>false
mutual
def PV.frz (o sz:Nat)(l:List D):PV->PV
 | .ref Z s Y len cap=>if Z=o then(if s=sz/\Y+len<=l.length then .d (.sl ((l.drop Y).take len))else .unk)else .ref Z s Y len cap
 | .ptr Z s i c=>if Z=o then(if s=sz/\i<l.length then .d (.pt ((l[i]?.getD (.sc undef)).cells.drop c))else .unk)else .ptr Z s i c
 | .ag X=> .ag (PV.frzL o sz l X)
 | .tup X=> .tup (PV.frzL o sz l X)
 | .fn f X=> .fn f (PV.frzL o sz l X)
 | .d x=> .d x
 | .nilS=> .nilS
 | .z0=> .z0
 | .unk=> .unk
 | .und=> .und
 | .ab=> .ab
 | .mp Z=>if Z=o then .unk else .mp Z
 | .ifp T Z=>if Z=o then .unk else .ifp T Z
def PV.frzL (o sz:Nat)(l:List D):List PV->List PV
 |[]=>[]
 |c::Z=>PV.frz o sz l c::PV.frzL o sz l Z
end
def Ob.frz (o sz:Nat)(l:List D):Ob->Ob
 | .cells Z=> .cells (PV.frzL o sz l Z)
 | .dead=> .dead
 | .gone=> .gone
 | .row sz l=> .row sz l
 | .imap l=> .imap l
 | .iter m k s=>if m=o then .gone else .iter m k s
def wB (o sz:Nat)(l:List D)(env:Nat->PV):Nat->PV:=λ i=>(env i).frz o sz l
def nc (o sz:Nat)(l:List D)(objs:Nat->Ob):Nat->Ob:=λ i=>(objs i).frz o sz l
theorem Md (o sz:Nat)(l:List D)(env:Nat->PV)(i:Nat):wB o sz l env i=(env i).frz o sz l:=rfl
theorem mq (o sz:Nat)(l:List D)(objs:Nat->Ob)(i:Nat):nc o sz l objs i=(objs i).frz o sz l:=rfl
structure Eff where
 val:PV
 wr:List (Nat×Ob):=[]
 rd:List Nat:=[]
instance : Inhabited Eff:=⟨{val:= .unk}⟩
abbrev Eff.v (x:PV):Eff:={val:=x}
def wrs :List (Nat×Ob)->(Nat->Ob)->Nat->Ob
 |[],Z=>Z
 |(o,Y)::r,Z=>upd o Y (wrs r Z)
def St.app (S:St)(dst:Option Nat)(e:Eff):St:=
 {env:=match dst with|some t=>upd t e.val S.env|none=>S.env
  objs:=wrs e.wr S.objs}
instance : Inhabited D:=⟨.sc default⟩
instance : Inhabited PV:=⟨.unk⟩
abbrev CE :=Prop×Eff
abbrev CE.no :CE:=(False,{val:= .unk})
abbrev CE.v (x:PV):CE:=(True,{val:=x})
def PV.asD :PV->Option D
 | .d x=>some x
 | .nilS=>some (.sl [])
 | .z0=>some (.sl [])
 | .ref .. =>none
 | .ptr .. =>none
 | .ag _=>none
 | .tup _=>none
 | .fn _ _=>none
 | .unk=>none
 | .und=>none
 | .ab=>none
 | .mp _=>none
 | .ifp _ _=>none
def ldD (ty:TyI)(cs:List D):Prop×D:=
 if ty.agg then(ty.size<=cs.length, .ag (cs.take ty.size))else match cs with
  |x::_=>(True,x)
  |[]=>(False,default)
def ldP (ty:TyI)(cs:List PV):Prop×PV:=
 if ty.agg then(ty.size<=cs.length, .ag (cs.take ty.size))else match cs with
  |x::_=>(True,x)
  |[]=>(False,default)
def lj (ty:TyI)(Y:Ob)(sz i c:Nat):Prop×PV:=
 match Y with
 | .cells Z=>((ldP ty (Z.drop (i*sz+c))).1,(ldP ty (Z.drop (i*sz+c))).2)
 | .row s l=>(sz=s/\i<l.length/\(ldD ty ((l[i]?.getD default).cells.drop c)).1, .d (ldD ty ((l[i]?.getD default).cells.drop c)).2)
 | .dead=>(False, .unk)
 | .gone=>(False, .unk)
 | .imap _=>(False, .unk)
 | .iter _ _ _=>(False, .unk)
def mkD (Z:D)(cs:List D):D:=
 match Z with
 | .ag _=> .ag cs
 |_=>match cs with|[x]=>x|_=> .ag cs
def su (X:Ob)(sz i c:Nat)(vs:List PV):Prop×Ob:=
 match X with
 | .cells Z=>(i*sz+c+vs.length<=Z.length, .cells (dI Z (i*sz+c) vs))
 | .row s l=>match vs.mapM PV.asD with
  |some Y=>(sz=s/\i<l.length/\c+Y.length<=(l[i]?.getD default).cells.length, .row s (l.set i (mkD (l[i]?.getD default) (dI (l[i]?.getD default).cells c Y))))
  |none=>(False, .dead)
 | .dead=>(False, .dead)
 | .gone=>(False, .gone)
 | .imap _=>(False, .dead)
 | .iter _ _ _=>(False, .dead)
def ct :List (Int×Int)->Int->Int
 |[],_=>0
 |(a,b)::r,k=>if a=k then b else ct r k
def iB :List (Int×Int)->Int->Int->List (Int×Int)
 |[],k,v=>[(k,v)]
 |(a,b)::r,k,v=>if a=k then(k,v)::r else(a,b)::iB r k v
def pG (pl:Nat->Option (Nat×Nat))(cells:List PV):List (Nat×PV)->Option (List PV)
 |[]=>some cells
 |(i,x)::Y=>
  match pl i,x.cells? with
  |some (Z,s),some X=>if X.length=s/\Z+s<=cells.length then pG pl (dI cells Z X) Y else none
  |_,_=>none
def D.notTup :D->Bool
 | .tup _=>false
 |_=>true
def mm (sz:Nat):List D->List (Nat×Option D)->Option (List D)
 |l,[]=>some l
 |l,(i,some d)::r=>if i<l.length/\d.cells.length=sz/\d.notTup=true then mm sz (l.set i d) r else none
 |_,(_,none)::_=>none
def j5 (op:BinOp)(a b:Int):Prop×Value:=
 match op with
 | .add=>(True, .int .i64 (IntKind.i64.wrap (a+b)))
 | .sub=>(True, .int .i64 (IntKind.i64.wrap (a-b)))
 | .mul=>(True, .int .i64 (IntKind.i64.wrap (a*b)))
 | .quo=>(b≠0, .int .i64 (IntKind.i64.wrap (a.tdiv b)))
 | .rem=>(b≠0, .int .i64 (a.tmod b))
 | .shl=>(0<=b, .int .i64 (IntKind.i64.wrap (a*2^(min b.toNat 64))))
 | .shr=>(0<=b, .int .i64 (a.fdiv (2^(min b.toNat 64))))
 | .and=>(True, .int .i64 (IntKind.i64.wrap ((BitVec.ofInt 64 a&&&BitVec.ofInt 64 b).toNat:Int)))
 | .or=>(True, .int .i64 (IntKind.i64.wrap ((BitVec.ofInt 64 a|||BitVec.ofInt 64 b).toNat:Int)))
 | .xor=>(True, .int .i64 (IntKind.i64.wrap ((BitVec.ofInt 64 a^^^BitVec.ofInt 64 b).toNat:Int)))
 | .andNot=>(True, .int .i64 (IntKind.i64.wrap ((BitVec.ofInt 64 a&&&~~~BitVec.ofInt 64 b).toNat:Int)))
 | .eql=>(True, .bool (decide (a=b)))
 | .neq=>(True, .bool (!decide (a=b)))
 | .lss=>(True, .bool (decide (a<b)))
 | .leq=>(True, .bool (decide (a<=b)))
 | .gtr=>(True, .bool (decide (b<a)))
 | .geq=>(True, .bool (decide (b<=a)))
def j6 (op:BinOp)(a b:Int):Prop×Value:=
 match op with
 | .add=>(True, .int .u64 (IntKind.u64.wrap (a+b)))
 | .sub=>(True, .int .u64 (IntKind.u64.wrap (a-b)))
 | .mul=>(True, .int .u64 (IntKind.u64.wrap (a*b)))
 | .quo=>(False, .int .u64 0)
 | .rem=>(False, .int .u64 0)
 | .shl=>(0<=b, .int .u64 (IntKind.u64.wrap (a*2^(min b.toNat 64))))
 | .shr=>(0<=b, .int .u64 (a.fdiv (2^(min b.toNat 64))))
 | .and=>(True, .int .u64 (IntKind.u64.wrap ((BitVec.ofInt 64 a&&&BitVec.ofInt 64 b).toNat:Int)))
 | .or=>(True, .int .u64 (IntKind.u64.wrap ((BitVec.ofInt 64 a|||BitVec.ofInt 64 b).toNat:Int)))
 | .xor=>(True, .int .u64 (IntKind.u64.wrap ((BitVec.ofInt 64 a^^^BitVec.ofInt 64 b).toNat:Int)))
 | .andNot=>(True, .int .u64 (IntKind.u64.wrap ((BitVec.ofInt 64 a&&&~~~BitVec.ofInt 64 b).toNat:Int)))
 | .eql=>(True, .bool (decide (a=b)))
 | .neq=>(True, .bool (!decide (a=b)))
 | .lss=>(True, .bool (decide (a<b)))
 | .leq=>(True, .bool (decide (a<=b)))
 | .gtr=>(True, .bool (decide (b<a)))
 | .geq=>(True, .bool (decide (b<=a)))
def lL :List PV->List PV->Option Bool
 |[],[]=>some true
 | .d (.sc (.int .i64 a))::r, .d (.sc (.int .i64 b))::s=>(lL r s).map (decide (a=b)&&·)
 |_,_=>none
def PV.agg? :PV->Option (List PV)
 | .ag Z=>some Z
 | .d (.ag Z)=>some (Z.map .d)
 |_=>none
def fY :PV->Option Nat
 | .d (.sl l)=>some l.length
 | .ref _ _ _ len _=>some len
 | .nilS=>some 0
 | .z0=>some 0
 |_=>none
end Go.PS
