/- Aggregates, literals of slices, built-in functions. -/
import Derived.Test.YthbcmebhpabpnaaDoorPSOps
import Derived.Great.BuildSlice
import Derived.Laws.MakeOwn
import Derived.Carry
set_option linter.unusedSimpArgs false
set_option linter.unusedVariables false
namespace Go.PS
open Go

section hold
variable {P : Program} {B X : Nat → Prop} {w0 : W0} {w : World} {n : Nat} {S : St} {a : Act} {ι : Nat → Option Nat} {dst : Option Nat} {ty : TypeId} {pos : String} {af : Array Edge} {gd : Option (Nat × Bool)}

theorem foldl_zip (off : Nat) : ∀ (vs : List Value) (k : Nat) (cs : Array Value),
  ((vs.zipIdx k).foldl (fun (cs : Array Value) (cj : Value × Nat) => cs.setIfInBounds (off + cj.2) cj.1) cs).size = cs.size ∧
  ∀ j, off + k + vs.length ≤ cs.size → ((vs.zipIdx k).foldl (fun (cs : Array Value) (cj : Value × Nat) => cs.setIfInBounds (off + cj.2) cj.1) cs)[j]? =
   if j < off + k then cs[j]? else if j < off + k + vs.length then vs[j - (off + k)]? else cs[j]? := by
 intro vs
 induction vs with
 | nil => intro k cs; refine ⟨rfl, fun j _ => ?_⟩; simp; intro h1 h2; omega
 | cons v vs ih =>
  intro k cs
  obtain ⟨h1, h2⟩ := ih (k + 1) (cs.setIfInBounds (off + k) v)
  simp only [List.zipIdx_cons, List.foldl_cons]
  refine ⟨by rw [h1]; simp, fun j hl => ?_⟩
  rw [h2 j (by simp at hl ⊢; omega)]
  simp only [List.length_cons] at hl ⊢
  by_cases c1 : j < off + k
  ·rw [if_pos (by omega), if_pos c1, Array.getElem?_setIfInBounds_ne (by omega)]
  ·by_cases c2 : j = off + k
   ·subst c2
    rw [if_pos (by omega), if_neg c1, if_pos (by omega), Array.getElem?_setIfInBounds_self_of_lt (by omega)]
    simp
   ·rw [if_neg (by omega), if_neg c1]
    by_cases c3 : j < off + k + (vs.length + 1)
    ·rw [if_pos (by omega), if_pos c3, show j - (off + k) = (j - (off + (k + 1))) + 1 by omega, List.getElem?_cons_succ]
    ·rw [if_neg (by omega), if_neg c3, Array.getElem?_setIfInBounds_ne (by omega)]

theorem foldl_arr (off : Nat) (vs cs : Array Value) (hl : off + vs.size ≤ cs.size) :
  (vs.zipIdx.foldl (fun (cs : Array Value) (cj : Value × Nat) => cs.setIfInBounds (off + cj.2) cj.1) cs).size = cs.size ∧
  ∀ j, (vs.zipIdx.foldl (fun (cs : Array Value) (cj : Value × Nat) => cs.setIfInBounds (off + cj.2) cj.1) cs)[j]? =
   if j < off then cs[j]? else if j < off + vs.size then vs[j - off]? else cs[j]? := by
 have := foldl_zip off vs.toList 0 cs
 rw [← Array.foldl_toList, Array.toList_zipIdx]
 refine ⟨this.1, fun j => ?_⟩
 rw [this.2 j (by simpa using hl)]
 simp

def CellsAt (w : World) (ι : Nat → Option Nat) (X : Nat → Prop) (cs : List PV) (arr : Array Value) : Prop :=
 arr.size = cs.length ∧ (∀ (j : Nat) (v : Value), arr[j]? = some v → v.oneCell' = true) ∧ ∀ (j : Nat) p v, cs[j]? = some p → arr[j]? = some v → PV.At w ι X p v

theorem fill_at (pl : Nat → Option (Nat × Nat)) : ∀ (ps : List (Nat × PV)) (vs : List (Nat × Value)) (cs cs' : List PV) (arr : Array Value),
  ps.length = vs.length → (∀ (k : Nat) p v, ps[k]? = some p → vs[k]? = some v → p.1 = v.1 ∧ PV.At w ι X p.2 v.2) → CellsAt w ι X cs arr → fillP pl cs ps = some cs' →
  ∃ arr', Instr.fill pl arr vs = some arr' ∧ CellsAt w ι X cs' arr' := by
 intro ps
 induction ps with
 | nil =>
  intro vs cs cs' arr hl _ hc hf
  cases vs with
  | nil => cases hf; exact ⟨arr, rfl, hc⟩
  | cons _ _ => cases hl
 | cons p ps ih =>
  intro vs cs cs' arr hl hr hc hf
  cases vs with
  | nil => cases hl
  | cons v vs =>
   obtain ⟨i, x⟩ := p
   obtain ⟨i', y⟩ := v
   obtain ⟨hi, hxy⟩ := hr 0 _ _ rfl rfl
   simp only at hi hxy
   subst hi
   simp only [fillP] at hf
   simp only [Instr.fill]
   cases hp : pl i with
   | none => rw [hp] at hf; cases hf
   | some q =>
    obtain ⟨off, sz⟩ := q
    rw [hp] at hf
    cases hxc : x.cells? with
    | none => rw [hxc] at hf; cases hf
    | some xs =>
     rw [hxc] at hf
     simp only at hf ⊢
     split at hf
     ·rename_i hcond
      obtain ⟨h1, h2, h3⟩ := hxy.cells hxc
      have hle : off + y.cells.size ≤ arr.size := by rw [h1, hc.1]; omega
      rw [if_neg (by simp only [Bool.or_eq_true, decide_eq_true_eq, not_or]; omega)]
      obtain ⟨f1, f2⟩ := foldl_arr off y.cells arr hle
      refine ih vs _ cs' _ (by simpa using hl) (fun k p v hk hv => hr (k + 1) p v (by simpa using hk) (by simpa using hv)) ⟨?_, ?_, ?_⟩ hf
      ·rw [f1, hc.1]; simp [splice]; omega
      ·intro j u hu
       rw [f2] at hu
       split at hu
       ·exact hc.2.1 j u hu
       ·split at hu
        ·exact h2 _ u hu
        ·exact hc.2.1 j u hu
      ·intro j q u hq hu
       rw [f2] at hu
       rw [getElem?_splice cs off xs (by omega)] at hq
       split at hq
       ·rename_i c1; rw [if_pos c1] at hu; exact hc.2.2 j q u hq hu
       ·rename_i c1; rw [if_neg c1] at hu
        split at hq
        ·rename_i c2; rw [if_pos (by omega)] at hu; exact h3 _ q u hq hu
        ·rename_i c2; rw [if_neg (by omega)] at hu; exact hc.2.2 j q u hq hu
     ·cases hf

theorem sim_build (hS : Hold B X w0 n S a w ι) {T : TypeId} {ps : Array (Nat × Operand)} (hd : ∀ t, dst = some t → t < n) (hx : ∀ p ∈ ps.toList, constOk p.2 = true)
  (hc : (semBuild (tyi P T) (ps.toList.map fun p => (p.1, S.ev p.2))).1) :
  Goes P B X w0 n ⟨dst, .build T ps, ty, pos, af, gd⟩ (S.app dst (semBuild (tyi P T) (ps.toList.map fun p => (p.1, S.ev p.2))).2) a w := by
 unfold semBuild at hc ⊢
 cases hf : fillP ((tyi P T).places[·]?) ((tyi P T).zero.map cellPV) (ps.toList.map fun p => (p.1, S.ev p.2)) with
 | none => rw [hf] at hc; exact hc.elim
 | some cs =>
  rw [hf] at hc
  obtain ⟨hz, hb⟩ := hc
  simp only
  rw [app_v]
  obtain ⟨i, z, hi, hiz, hzs, hz1, hne, hzz⟩ := zok_zero hz
  have h0 : CellsAt w ι X ((tyi P T).zero.map cellPV) z.cells := by
   refine ⟨by simp [hzz], fun j v hj => hz1 v (by simpa using Array.mem_of_getElem? hj), fun j p v hj hv => ?_⟩
   rw [hzz, List.getElem?_map, Array.getElem?_toList, hv] at hj
   cases hj
   exact cellPV_at (hz1 v (by simpa using Array.mem_of_getElem? hv))
  obtain ⟨arr, ha, hat⟩ := fill_at ((tyi P T).places[·]?) (ps.toList.map fun p => (p.1, S.ev p.2)) (ps.toList.map fun p => (p.1, a.eval p.2)) _ cs z.cells (by simp)
   (fun k p v hk hv => by
    rw [List.getElem?_map] at hk hv
    cases hp : ps.toList[k]? with
    | none => rw [hp] at hk; cases hk
    | some q =>
     rw [hp] at hk hv; cases hk; cases hv
     exact ⟨rfl, hS.ev (hx q (List.mem_of_getElem? hp))⟩) h0 hf
  have hbuilt : P.built T ((ps.map fun (i, x) => (i, a.eval x))).toList = some arr := by
   simp only [tyi] at hb ha
   unfold Program.built
   cases hu : P.underlying T with
   | none => rw [hu] at hb; cases hb
   | some dd =>
    rw [hu] at hb ha
    cases dd <;> simp only at hb ha <;> try (cases hb; done)
    rename_i fs
    simp only [hi, hiz]
    cases hm : fs.toList.mapM (fun f => (P.info? f.type).map fun i => (f.offset, i.size)) with
    | none => rw [hm] at hb; cases hb
    | some pl =>
     rw [hm] at ha
     simp only [Option.getD_some] at ha
     simp only [Array.toList_map]
     rw [← ha]
     congr 1
     funext k
     simp
  have hr := Go.run_build (P := P) w T (ps.map fun (i, x) => (i, a.eval x)) arr hbuilt
  exact hS.goes hd (by simp only [execOp, Sem.run_bind, hr, Result.andThen_ok, Sem.run_pure]) (.ag cs arr hat.1 hat.2.1 hat.2.2)

def RowAt (w : World) (Y : Nat → Prop) (sz : Nat) (l : List D) (arr : Array Value) : Prop :=
 arr.size = l.length * sz ∧ (∀ d, d ∈ l → d.cells.length = sz) ∧ (∀ (j : Nat) (v : Value), arr[j]? = some v → v.oneCell' = true) ∧
 ∀ (i : Nat) d (j : Nat) e v, l[i]? = some d → d.cells[j]? = some e → arr[i * sz + j]? = some v → D.At w Y e v

theorem elems_at (sz : Nat) : ∀ (ps : List (Nat × Option D)) (vs : List (Nat × Value)) (l l' : List D) (arr : Array Value),
  ps.length = vs.length → (∀ (k : Nat) p v, ps[k]? = some p → vs[k]? = some v → p.1 = v.1 ∧ ∀ d, p.2 = some d → D.At w (ownX ι X) d v.2) → RowAt w (ownX ι X) sz l arr → elemsF sz l ps = some l' →
  ∃ arr', Instr.fill (fun i => some (i * sz, sz)) arr vs = some arr' ∧ RowAt w (ownX ι X) sz l' arr' ∧ l'.length = l.length := by
 intro ps
 induction ps with
 | nil =>
  intro vs l l' arr hl _ hc hf
  cases vs with
  | nil => simp [elemsF] at hf; subst hf; exact ⟨arr, rfl, hc, rfl⟩
  | cons _ _ => cases hl
 | cons p ps ih =>
  intro vs l l' arr hl hr hc hf
  cases vs with
  | nil => cases hl
  | cons v vs =>
   obtain ⟨i, x⟩ := p
   obtain ⟨i', y⟩ := v
   obtain ⟨hi, hxy⟩ := hr 0 _ _ rfl rfl
   simp only at hi hxy
   subst hi
   cases x with
   | none => simp [elemsF] at hf
   | some d =>
    simp only [elemsF] at hf
    split at hf
    ·rename_i hcond
     obtain ⟨hlt, hsz, hnt⟩ := hcond
     obtain ⟨h1, h2, h3⟩ := (hxy d rfl).cells (by rintro q rfl; simp [D.notTup] at hnt)
     have hroom : i * sz + sz ≤ arr.size := by
      have : (i + 1) * sz ≤ l.length * sz := Nat.mul_le_mul_right _ hlt
      rw [Nat.add_mul] at this; rw [hc.1]; omega
     simp only [Instr.fill]
     rw [if_neg (by simp only [Bool.or_eq_true, decide_eq_true_eq, not_or]; omega)]
     obtain ⟨f1, f2⟩ := foldl_arr (i * sz) y.cells arr (by omega)
     suffices hra : RowAt w (ownX ι X) sz (l.set i d) (y.cells.zipIdx.foldl (fun (cs : Array Value) (cj : Value × Nat) => cs.setIfInBounds (i * sz + cj.2) cj.1) arr) by
      obtain ⟨arr', e1, e2, e3⟩ := ih vs (l.set i d) l' _ (by simpa using hl) (fun k p v hk hv => hr (k + 1) p v (by simpa using hk) (by simpa using hv)) hra hf
      exact ⟨arr', e1, e2, by simpa using e3⟩
     refine ⟨?_, ?_, ?_, ?_⟩
     ·rw [f1, hc.1, List.length_set]
     ·intro e he
      rcases List.mem_or_eq_of_mem_set he with he | rfl
      ·exact hc.2.1 e he
      ·exact hsz
     ·intro j u hu
      rw [f2] at hu
      split at hu
      ·exact hc.2.2.1 j u hu
      ·split at hu
       ·exact h2 _ u hu
       ·exact hc.2.2.1 j u hu
     ·intro k e j q u he hq hu
      rw [f2] at hu
      by_cases hk : k = i
      ·subst hk
       rw [List.getElem?_set_self hlt] at he
       cases he
       have hjs : j < sz := by rw [← hsz]; exact (List.getElem?_eq_some_iff.1 hq).1
       rw [if_neg (by omega), if_pos (by omega)] at hu
       exact h3 j q u hq (by rw [show k * sz + j - k * sz = j by omega] at hu; exact hu)
      ·rw [List.getElem?_set_ne (Ne.symm hk)] at he
       have hjs : j < sz := by rw [← hc.2.1 e (List.mem_of_getElem? he)]; exact (List.getElem?_eq_some_iff.1 hq).1
       have hout : k * sz + j < i * sz ∨ i * sz + sz ≤ k * sz + j := by
        rcases Nat.lt_or_gt_of_ne hk with hlt' | hgt
        ·left
         have : (k + 1) * sz ≤ i * sz := Nat.mul_le_mul_right _ hlt'
         rw [Nat.add_mul] at this; omega
        ·right
         have : (i + 1) * sz ≤ k * sz := Nat.mul_le_mul_right _ hgt
         rw [Nat.add_mul] at this; omega
       rcases hout with ho | ho
       ·rw [if_pos ho] at hu; exact hc.2.2.2 k e j q u he hq hu
       ·rw [if_neg (by omega), if_neg (by omega)] at hu; exact hc.2.2.2 k e j q u he hq hu
    ·cases hf

theorem cellD_at {v : Value} {Y : Nat → Prop} (h : v.oneCell' = true) : D.At w Y (cellD v) v := by
 unfold cellD
 split
 ·exact .slnil none 0
 ·exact .sc v h

theorem cellD_cells {v : Value} : (cellD v).cells = [cellD v] := by
 unfold cellD
 split <;> rfl

theorem ofCells_cells (agg : Bool) (vs : List Value) (h : agg = false → vs.length = 1) : (D.ofCells agg (vs.map cellD)).cells = vs.map cellD := by
 unfold D.ofCells
 cases agg with
 | true => rfl
 | false =>
  have := h rfl
  match vs, this with
  | [v], _ => exact cellD_cells

theorem zeros_at {z : Array Value} {sz m : Nat} {agg : Bool} (hz : z.size = sz) (h1 : ∀ v ∈ z.toList, v.oneCell' = true) (h0 : sz ≠ 0) (ha : agg = false → sz = 1) {Y : Nat → Prop} :
  RowAt w Y sz (List.replicate m (.ofCells agg (z.toList.map cellD))) ((Array.range (m * sz)).map (fun k => z[k % z.size]!)) := by
 have hcl : (D.ofCells agg (z.toList.map cellD)).cells = z.toList.map cellD := ofCells_cells agg z.toList (fun h => by simp [hz, ha h])
 refine ⟨by simp, fun d hd => ?_, fun j v hj => ?_, fun i d j e v hi he hv => ?_⟩
 ·rw [List.eq_of_mem_replicate hd, hcl]; simp [hz]
 ·rw [Array.getElem?_map] at hj
  cases hr : (Array.range (m * sz))[j]? with
  | none => rw [hr] at hj; cases hj
  | some q =>
   rw [hr] at hj
   simp only [Option.map_some, Option.some.injEq] at hj
   subst hj
   have hlt : q % z.size < z.size := Nat.mod_lt _ (by omega)
   rw [getElem!_pos z _ hlt]
   exact h1 _ (by simp)
 ·have hil := (List.getElem?_eq_some_iff.1 hi).1
  simp only [List.length_replicate] at hil
  rw [List.getElem?_replicate] at hi
  split at hi
  ·cases hi
   rw [hcl, List.getElem?_map] at he
   cases hq : z.toList[j]? with
   | none => rw [hq] at he; cases he
   | some q =>
    rw [hq] at he; cases he
    have hjl := (List.getElem?_eq_some_iff.1 hq).1
    simp only [Array.length_toList] at hjl
    have hlt : i * sz + j < m * sz := by
     have : (i + 1) * sz ≤ m * sz := Nat.mul_le_mul_right _ hil
     rw [Nat.add_mul] at this; omega
    rw [Array.getElem?_map, Array.getElem?_range] at hv
    simp only [hlt, if_true, Option.map_some, Option.some.injEq] at hv
    have hmod : (i * sz + j) % z.size = j := by rw [hz, Nat.mul_comm, Nat.mul_add_mod]; exact Nat.mod_eq_of_lt (by omega)
    rw [hmod, getElem!_pos z j hjl] at hv
    rw [Array.getElem?_toList, Array.getElem?_eq_getElem hjl] at hq
    cases hq
    subst hv
    exact cellD_at (h1 _ (by simp))
  ·rename_i hn; exact absurd hil hn
end hold
end Go.PS
namespace Go.PS
open Go

section hold
variable {P : Program} {B X : Nat → Prop} {w0 : W0} {w : World} {n : Nat} {S : St} {a : Act} {ι : Nat → Option Nat} {dst : Option Nat} {ty : TypeId} {pos : String} {af : Array Edge} {gd : Option (Nat × Bool)}

theorem Hold.ext (h : Hold B X w0 n S a w ι) {w' : World} (hb : RowKit.Below w.heap.size w w') : Hold B X w0 n S a w' ι := by
 have h1 : ∀ o b, ι o = some b → ι o = some b ∧ bsz w' b = bsz w b := fun o b hob => ⟨hob, by simp only [bsz, hb.block b (h.free o b hob).2]⟩
 have h2 : ∀ b, ownX ι X b → ownX ι X b ∨ w.heap.size ≤ b := fun b hb => .inl hb
 have h3 : ∀ b, b < w.heap.size → ¬ ownX ι X b → w'.heap[b]? = w.heap[b]? := fun b hlt _ => hb.block b hlt
 refine ⟨h.size, h.defers, ⟨hb.os.trans h.frame.os, hb.tape.trans h.frame.tape, hb.output.trans h.frame.output, Nat.le_trans h.frame.size hb.size, fun b hB => ?_⟩, h.hB, h.hXB, h.inj,
  fun o b hob => ⟨(h.free o b hob).1, Nat.lt_of_lt_of_le (h.free o b hob).2 hb.size⟩, fun t => (h.env t).move h1 h2 h3, fun o => ?_, fun o b hb0 => ?_⟩
 ·rw [← h.frame.keep b hB]; exact hb.block b (Nat.lt_of_lt_of_le (h.hB b hB) h.frame.size)
 ·exact (h.objs o).move rfl (fun _ b hob => hb.block b (h.free o b hob).2) h1 h2 h3
 ·obtain ⟨g1, g2, g3⟩ := h.stay o b hb0
  exact ⟨g1, g2, (h1 o b g2).2.trans g3⟩

theorem Hold.ownlt (h : Hold B X w0 n S a w ι) {b : Nat} (hb : ownX ι X b) : b < w.heap.size := by
 rcases hb with hb | ⟨o, hb⟩
 ·exact Nat.lt_of_lt_of_le (h.hX b hb) h.frame.size
 ·exact (h.free o b hb).2

theorem toD_at {objs : Nat → Ob} : ∀ (k : Nat) (p : PV) (v : Value) (d : D), toD objs k p = some d → p.refs objs k = [] → PV.At w ι X p v → D.At w (ownX ι X) d v := by
 intro k
 induction k with
 | zero => intro p v d h; simp [toD] at h
 | succ k ih =>
  intro p v d h hr hp
  have list : ∀ (cs : List PV) (ds : List D) (arr : Array Value), cs.mapM (toD objs k) = some ds → cs.flatMap (PV.refs objs k) = [] →
    (∀ (j : Nat) p v, cs[j]? = some p → arr[j]? = some v → PV.At w ι X p v) → ds.length = cs.length ∧ ∀ (j : Nat) d v, ds[j]? = some d → arr[j]? = some v → D.At w (ownX ι X) d v := by
   intro cs
   induction cs with
   | nil => intro ds arr hm _ _; simp at hm; subst hm; simp
   | cons c cs ihc =>
    intro ds arr hm hf hat
    simp only [List.mapM_cons] at hm
    cases hc : toD objs k c with
    | none => rw [hc] at hm; cases hm
    | some e =>
     rw [hc] at hm
     cases hm2 : cs.mapM (toD objs k) with
     | none => rw [hm2] at hm; cases hm
     | some es =>
      rw [hm2] at hm; cases hm
      simp only [List.flatMap_cons, List.append_eq_nil_iff] at hf
      obtain ⟨g1, g2⟩ := ihc es (arr.extract 1 arr.size) hm2 hf.2 (fun j p v hj hv => by
       rw [Array.getElem?_extract] at hv
       split at hv
       ·exact hat (j + 1) p v (by simpa using hj) (by rw [Nat.add_comm]; exact hv)
       ·cases hv)
      refine ⟨by simp [g1], fun j d v hj hv => ?_⟩
      cases j with
      | zero => simp at hj; subst hj; exact ih c v e hc hf.1 (hat 0 c v rfl hv)
      | succ j =>
       refine g2 j d v (by simpa using hj) ?_
       have hlt := (Array.getElem?_eq_some_iff.1 hv).1
       rw [Array.getElem?_extract]
       rw [if_pos (by simp; omega), Nat.add_comm]; exact hv
  cases p with
  | d x => simp [toD] at h; subst h; cases hp; assumption
  | nilS => simp [toD] at h; subst h; cases hp; exact .slnil none 0
  | z0 => simp [toD] at h; subst h; cases hp; exact .slnil _ 0
  | unk => simp [toD] at h
  | und => simp [toD] at h
  | ab => simp [toD] at h
  | mp _ => simp [toD] at h
  | ifp _ _ => simp [toD] at h
  | ref o sz off len cap =>
   exfalso
   simp only [PV.refs] at hr
   split at hr <;> simp at hr
  | ptr o sz i c =>
   exfalso
   simp only [PV.refs] at hr
   split at hr <;> simp at hr
  | ag cs =>
   simp only [toD] at h
   cases hm : cs.mapM (toD objs k) with
   | none => rw [hm] at h; cases h
   | some ds =>
    rw [hm] at h; cases h
    cases hp with
    | ag _ arr hsz hone hat =>
     obtain ⟨g1, g2⟩ := list cs ds arr hm (by simpa [PV.refs] using hr) hat
     exact .ag ds arr (by omega) hone g2
  | tup cs =>
   simp only [toD] at h
   cases hm : cs.mapM (toD objs k) with
   | none => rw [hm] at h; cases h
   | some ds =>
    rw [hm] at h; cases h
    cases hp with
    | tup _ arr hsz hat =>
     obtain ⟨g1, g2⟩ := list cs ds arr hm (by simpa [PV.refs] using hr) hat
     exact .tup ds arr (by omega) g2
  | fn f cs =>
   simp only [toD] at h
   cases hm : cs.mapM (toD objs k) with
   | none => rw [hm] at h; cases h
   | some ds =>
    rw [hm] at h; cases h
    cases hp with
    | fn _ _ arr hsz hat =>
     obtain ⟨g1, g2⟩ := list cs ds arr hm (by simpa [PV.refs] using hr) hat
     exact .fn f ds arr (by omega) g2

theorem zok_of {t : TypeId} (h : (tyi P t).zok = true) : ∃ i z, P.info? t = some i ∧ i.zero = some z ∧ z.cells.size = (tyi P t).size ∧ i.size = (tyi P t).size ∧ i.bytes = (tyi P t).bytes ∧ (∀ v ∈ z.cells.toList, v.oneCell' = true) ∧ (tyi P t).size ≠ 0 ∧ (tyi P t).zero = z.cells.toList ∧ ((tyi P t).agg = false → (tyi P t).size = 1 ∨ True) := by
 obtain ⟨i, z, hi, hiz, hzs, hz1, hne, hzz⟩ := zok_zero h
 exact ⟨i, z, hi, hiz, hzs, by simp [tyi, Program.cellsOf, hi], by simp [tyi, Program.bytesOf, hi], hz1, hne, hzz, fun _ => .inr trivial⟩

theorem sim_buildSlice (hS : Hold B X w0 n S a w ι) {T : TypeId} {m : Nat} {ow : Bool} {ps : Array (Nat × Operand)} (hd : ∀ t, dst = some t → t < n) (hx : ∀ p ∈ ps.toList, constOk p.2 = true)
  (hc : (semBuildSlice S.objs dst ow (tyi P T) (tyi P (tyi P T).elem) m (ps.toList.map fun p => (p.1, S.ev p.2))).1) :
  Goes P B X w0 n ⟨dst, .buildSlice T m ps, ty, pos, af, gd⟩ (S.app dst (semBuildSlice S.objs dst ow (tyi P T) (tyi P (tyi P T).elem) m (ps.toList.map fun p => (p.1, S.ev p.2))).2) a w := by
 unfold semBuildSlice at hc ⊢
 generalize hls : elemsF (tyi P (tyi P T).elem).size (List.replicate m (.ofCells (tyi P (tyi P T).elem).agg ((tyi P (tyi P T).elem).zero.map cellD))) ((ps.toList.map fun p => (p.1, S.ev p.2)).map fun p => (p.1, toD S.objs 4 p.2)) = res at hc ⊢
 cases res with
 | none => exact hc.elim
 | some l =>
  simp only at hc ⊢
  have hmain : (tyi P T).kind = 1 ∧ (tyi P (tyi P T).elem).zok = true ∧ m * (tyi P (tyi P T).elem).size ≤ 16777216 ∧ ((ps.toList.map fun p => (p.1, S.ev p.2)).map (·.2)).flatMap (PV.refs S.objs 4) = [] := by
   cases ow with
   | true =>
    cases dst with
    | none => exact hc.elim
    | some t => exact ⟨hc.1, hc.2.1, hc.2.2.1, hc.2.2.2.1⟩
   | false => exact hc
  obtain ⟨hk, hz, hm, hrefs⟩ := hmain
  have hu := kind1 hk
  obtain ⟨ie, z, hie, hiz, hzs, hisz, _, hz1, hne, hzz, _⟩ := zok_of hz
  have hagg := zok_agg hz
  generalize he : (tyi P (tyi P T).elem) = ety at *
  have h0 : RowAt w (ownX ι X) ety.size (List.replicate m (.ofCells ety.agg (ety.zero.map cellD))) ((Array.range (m * ety.size)).map (fun k => z.cells[k % z.cells.size]!)) := by
   rw [hzz]; exact zeros_at hzs hz1 hne hagg
  obtain ⟨arr, ha, hat, hll⟩ := elems_at (w := w) (ι := ι) (X := X) ety.size _ (ps.toList.map fun p => (p.1, a.eval p.2)) _ l _ (by simp)
   (fun k p v hk hv => by
    rw [List.getElem?_map] at hv
    rw [List.map_map, List.getElem?_map] at hk
    cases hp : ps.toList[k]? with
    | none => rw [hp] at hk; cases hk
    | some q =>
     rw [hp] at hk hv; cases hk; cases hv
     refine ⟨rfl, fun d hdd => ?_⟩
     have hmem : q ∈ ps.toList := List.mem_of_getElem? hp
     refine toD_at 4 (S.ev q.2) _ d hdd ?_ (hS.ev (hx q hmem))
     rw [List.flatMap_eq_nil_iff] at hrefs
     exact hrefs _ (by simp only [List.map_map, List.mem_map, Function.comp]; exact ⟨q, hmem, rfl⟩)) h0 hls
  simp only [List.length_replicate] at hll
  have hpos : m * ie.size = 0 → False ∨ True := fun _ => .inr trivial
  have hr : (Instr.buildSlice T m (ps.map fun (i, x) => (i, a.eval x))).run P w = .ok (.slice (some ⟨w.heap.size, 0, none⟩) m m) (w.alloc (.cells arr (tyi P T).elem)) := by
   by_cases hm0 : m = 0
   ·subst hm0
    simp only [Nat.zero_mul] at ha
    simp only [Instr.buildSlice, Sem.run_bind, run_underlying hu, Result.andThen_ok, sizeOf, typeInfo, hie, run_program, Sem.run_pure, Nat.zero_mul]
    have e0 : ∀ f : Nat → Value, (Array.range 0).map f = #[] := fun f => Array.eq_empty_of_size_eq_zero (by simp)
    rw [e0] at ha
    simp [hisz, newRow]
    rw [e0]
    have ha' : Instr.fill (fun i => some (i * ety.size, ety.size)) #[] (ps.toList.map fun (x : Nat × Operand) => (x.1, a.eval x.2)) = some arr := ha
    rw [ha']
    simp
   ·have hz0 : m * ie.size ≠ 0 := by rw [hisz]; exact Nat.mul_ne_zero hm0 hne
    simp only [Instr.buildSlice, Sem.run_bind, run_underlying hu, Result.andThen_ok, sizeOf, typeInfo, hie, run_program, Sem.run_pure, Sem.run_ite]
    rw [hisz] at hz0 ⊢
    simp only [show ¬ (m * ety.size > 2 ^ 24) by omega, if_false, Sem.run_pure, Result.andThen_ok, hz0, Sem.run_bind, zeroValue, typeInfo, hie, hiz, run_program]
    simp only [Array.toList_map]
    have ha' : Instr.fill (fun i => some (i * ety.size, ety.size)) ((Array.range (m * ety.size)).map (fun k => z.cells[k % z.cells.size]!)) (ps.toList.map fun (i, x) => (i, a.eval x)) = some arr := ha
    rw [ha']
    simp [newRow]
  have hrun : (execOp a.eval ⟨dst, .buildSlice T m ps, ty, pos, af, gd⟩).run P w = .ok (.value (.slice (some ⟨w.heap.size, 0, none⟩) m m)) (w.alloc (.cells arr (tyi P T).elem)) := by
   simp only [execOp, Sem.run_bind, hr, Result.andThen_ok, Sem.run_pure]
  have hold : ∀ b, b < w.heap.size → (w.alloc (.cells arr (tyi P T).elem)).heap[b]? = w.heap[b]? := fun b hb => heap_alloc_old w _ hb
  have hmax : m ≤ maxLen := by
   have : m * 1 ≤ m * ety.size := Nat.mul_le_mul_left _ (by omega)
   simp only [maxLen]; omega
  cases ow with
  | false =>
   simp only [Bool.false_eq_true, if_false]
   rw [app_v]
   have hS' := hS.ext (w' := w.alloc (.cells arr (tyi P T).elem)) ⟨rfl, rfl, rfl, by simp, hold⟩
   refine ⟨_, _, ι, .inl hrun, hS'.put hd (.d _ _ ?_)⟩
   have := D.At.sl (w := w.alloc (.cells arr (tyi P T).elem)) (X := ownX ι X) l w.heap.size 0 m ety.size (by omega) hmax hat.2.1 (fun i j => arr.getD (i * ety.size + j) undef) (fun i d j c hi hj => ?_) (fun i d j c hi hj => ?_)
   ·rw [hll] at this; exact this
   ·have hil := (List.getElem?_eq_some_iff.1 hi).1
    have hjl : j < ety.size := by rw [← hat.2.1 d (List.mem_of_getElem? hi)]; exact (List.getElem?_eq_some_iff.1 hj).1
    have hlt : i * ety.size + j < arr.size := by
     have : (i + 1) * ety.size ≤ l.length * ety.size := Nat.mul_le_mul_right _ hil
     rw [Nat.add_mul] at this; rw [hat.1]; omega
    have hg : arr[i * ety.size + j]? = some arr[i * ety.size + j] := Array.getElem?_eq_getElem hlt
    have hgd : arr.getD (i * ety.size + j) undef = arr[i * ety.size + j] := by simp [Array.getD, hlt]
    simp only [hgd]
    refine ⟨?_, hat.2.2.1 _ _ hg, fun ho => ?_⟩
    ·rw [Nat.zero_add, cell_arr (heap_alloc_new w _), hg]
    ·have := hS.ownlt ho; omega
   ·have hil := (List.getElem?_eq_some_iff.1 hi).1
    have hjl : j < ety.size := by rw [← hat.2.1 d (List.mem_of_getElem? hi)]; exact (List.getElem?_eq_some_iff.1 hj).1
    have hlt : i * ety.size + j < arr.size := by
     have : (i + 1) * ety.size ≤ l.length * ety.size := Nat.mul_le_mul_right _ hil
     rw [Nat.add_mul] at this; rw [hat.1]; omega
    have hg : arr[i * ety.size + j]? = some arr[i * ety.size + j] := Array.getElem?_eq_getElem hlt
    have hgd : arr.getD (i * ety.size + j) undef = arr[i * ety.size + j] := by simp [Array.getD, hlt]
    simp only [hgd]
    exact (hat.2.2.2 i d j c _ hi hj hg).mono (fun b hb => .inl hb) (fun b hb _ => hold b hb)
  | true =>
   cases dst with
   | none => exact hc.elim
   | some t =>
    have hdead : S.objs t = .dead := hc.2.2.2.2
    simp only [if_true]
    have hob : Ob.At (w.alloc (.cells arr (tyi P T).elem)) (upd t (some w.heap.size) ι) X t (.row ety.size l) :=
     .row ety.size l w.heap.size arr (tyi P T).elem (if_pos rfl) (heap_alloc_new w _) (by rw [hat.1]; exact Nat.le_refl _) hat.2.1 hat.2.2.1
      fun i d j e v hi hj hv => (hat.2.2.2 i d j e v hi hj hv).alloc hS hdead hold
    have h1 := hS.alloc hdead (w.alloc (.cells arr (tyi P T).elem)) rfl rfl rfl (by simp) hold _ hob
    refine ⟨_, _, upd t (some w.heap.size) ι, .inl hrun, ?_⟩
    have h2 := h1.put (dst := some t) (x := .ref t ety.size 0 m m) (v := .slice (some ⟨w.heap.size, 0 * ety.size, none⟩) m m) hd
     (.ref t ety.size 0 m m m w.heap.size (if_pos rfl) (Nat.le_refl _) (Nat.le_refl _) hmax (by simp only [bsz, heap_alloc_new w, hat.1, hll, Nat.zero_add]))
    rw [Nat.zero_mul] at h2
    exact h2
end hold
end Go.PS
namespace Go.PS
open Go

section hold
variable {P : Program} {B X : Nat → Prop} {w0 : W0} {w : World} {n : Nat} {S : St} {a : Act} {ι : Nat → Option Nat} {dst : Option Nat} {ty : TypeId} {pos : String} {af : Array Edge} {gd : Option (Nat × Bool)}

theorem sim_makeFunc (hS : Hold B X w0 n S a w ι) {fn : Fn} {fi ca : Array Operand} (hd : ∀ t, dst = some t → t < n) (hx : ∀ x ∈ ca.toList, constOk x = true)
  (hc : (semMakeFunc fn (fi.toList.map S.ev) (ca.toList.map S.ev)).1) : Goes P B X w0 n ⟨dst, .makeFunc fn fi ca, ty, pos, af, gd⟩ (S.app dst (semMakeFunc fn (fi.toList.map S.ev) (ca.toList.map S.ev)).2) a w := by
 unfold semMakeFunc at hc ⊢
 split at hc
 ·rename_i f hfi
  have hf0 : fi = #[] := by
   have : fi.toList = [] := by simpa using hfi
   exact Array.toList_eq_nil_iff.1 this
  subst hf0
  simp only
  rw [app_v]
  refine hS.goes (v := .func (.func f) #[] (ca.map a.eval)) hd (by simp [execOp, Instr.makeFunc]) (.fn f _ _ (by simp) (fun j p v hj hv => ?_))
  rw [List.getElem?_map] at hj
  rw [Array.getElem?_map] at hv
  simp only [Array.getElem?_toList] at hj
  cases hq : ca[j]? with
  | none => rw [hq] at hj; cases hj
  | some x =>
   rw [hq] at hj hv; cases hj; cases hv
   exact hS.ev (hx x (by simpa using Array.mem_of_getElem? hq))
 ·exact hc.elim

theorem sim_makeSlice (hS : Hold B X w0 n S a w ι) {T : TypeId} {l c : Operand} (hd : ∀ t, dst = some t → t < n) (hl : constOk l = true) (hcc : constOk c = true)
  (hc : (semMakeSlice (tyi P T) (tyi P (tyi P T).elem) S.objs dst (S.ev l) (S.ev c)).1) :
  Goes P B X w0 n ⟨dst, .makeSlice T l c, ty, pos, af, gd⟩ (S.app dst (semMakeSlice (tyi P T) (tyi P (tyi P T).elem) S.objs dst (S.ev l) (S.ev c)).2) a w := by
 have h1 := hS.ev hl
 have h2 := hS.ev hcc
 unfold semMakeSlice at hc ⊢
 split at hc
 ·rename_i t m m' e1 e2
  obtain ⟨hk, hz, rfl, h0, hb, hm, hdead⟩ := hc
  rw [e1] at h1
  rw [e2] at h2
  have v1 := d_int h1
  have v2 := d_int h2
  have hu := kind1 hk
  obtain ⟨ie, z, hie, hiz, hzs, hisz, hiby, hz1, hne, hzz, _⟩ := zok_of hz
  have hagg := zok_agg hz
  generalize he : (tyi P (tyi P T).elem) = ety at *
  obtain ⟨k, rfl⟩ : ∃ k : Nat, m = k := ⟨m.toNat, by omega⟩
  simp only [Int.toNat_natCast]
  have hr := run_make (P := P) w T (tyi P T).elem ie z hu hie hiz .i64 .i64 (k : Int) (k : Int) h0 (Int.le_refl _) (by rw [hiby]; exact hb) hm
  simp only [Int.toNat_natCast] at hr
  have h0' : RowAt w (ownX ι X) ety.size (List.replicate k (.ofCells ety.agg (ety.zero.map cellD))) (madeCells z.cells (k * ety.size)) := by
   rw [hzz]; exact zeros_at hzs hz1 hne hagg
  rw [hisz] at hr
  have hz0 : nilZero ety.zero = true → z.cells.toList = [.slice none 0 0] := by
   intro h
   rw [← hzz]
   unfold nilZero at h
   split at h
   ·assumption
   ·cases h
  have hsz1 : nilZero ety.zero = true → ety.size = 1 := by
   intro h
   have := congrArg List.length (hz0 h)
   simp at this; omega
  have hnil : nilZero ety.zero = true → ∀ (j : Nat) v, (madeCells z.cells (k * ety.size))[j]? = some v → v = .slice none 0 0 := by
   intro h j v hj
   have hzc : z.cells = #[.slice none 0 0] := by rw [← Array.toList_inj]; exact hz0 h
   have hm : v ∈ madeCells z.cells (k * ety.size) := Array.mem_of_getElem? hj
   have hme : madeCells z.cells (k * ety.size) = (Array.range (k * ety.size)).map (fun k => z.cells[k % z.cells.size]!) := rfl
   rw [hme, hzc] at hm
   obtain ⟨q, _, rfl⟩ := Array.mem_map.1 hm
   have : q % (#[Value.slice none 0 0] : Array Value).size = 0 := by simp [Nat.mod_one]
   rw [this]; rfl
  generalize hmc : madeCells z.cells (k * ety.size) = arr at *
  have hold : ∀ b, b < w.heap.size → (w.alloc (.cells arr (tyi P T).elem)).heap[b]? = w.heap[b]? := fun b hb => heap_alloc_old w _ hb
  have hob : Ob.At (w.alloc (.cells arr (tyi P T).elem)) (upd t (some w.heap.size) ι) X t (if nilZero ety.zero = true then .cells (List.replicate k .nilS) else .row ety.size (List.replicate k (.ofCells ety.agg (ety.zero.map cellD)))) := by
   split
   ·rename_i hnz
    refine .cells _ w.heap.size arr (tyi P T).elem (if_pos rfl) (heap_alloc_new w _) (by rw [h0'.1, List.length_replicate, List.length_replicate, hsz1 hnz, Nat.mul_one]; exact Nat.le_refl _) h0'.2.2.1 fun j p v hj hv => ?_
    rw [hnil hnz j v hv, List.eq_of_mem_replicate (List.mem_of_getElem? hj)]
    exact .nilS
   ·exact .row ety.size _ w.heap.size arr (tyi P T).elem (if_pos rfl) (heap_alloc_new w _) (by rw [h0'.1]; exact Nat.le_refl _) h0'.2.1 h0'.2.2.1 (fun i d j e v hi hj hv => (h0'.2.2.2 i d j e v hi hj hv).alloc hS hdead hold)
  have h3 := hS.alloc hdead (w.alloc (.cells arr (tyi P T).elem)) rfl rfl rfl (by simp) hold _ hob
  have hrun : (execOp a.eval ⟨some t, .makeSlice T l c, ty, pos, af, gd⟩).run P w = .ok (.value (.slice (some ⟨w.heap.size, 0, none⟩) k k)) (w.alloc (.cells arr (tyi P T).elem)) := by
   simp only [execOp, v1, v2, Sem.run_bind, hr, Result.andThen_ok, Sem.run_pure]
  refine ⟨_, _, upd t (some w.heap.size) ι, .inl hrun, ?_⟩
  have h4 := h3.put (dst := some t) (x := .ref t ety.size 0 k k) (v := .slice (some ⟨w.heap.size, 0 * ety.size, none⟩) k k) hd
   (.ref t ety.size 0 k k k w.heap.size (if_pos rfl) (Nat.le_refl _) (Nat.le_refl _) (by simp only [maxLen]; omega) (by simp only [bsz, heap_alloc_new w, h0'.1, List.length_replicate, Nat.zero_add]))
  rw [Nat.zero_mul] at h4
  exact h4
 ·exact hc.elim
end hold
end Go.PS
namespace Go.PS
open Go

section hold
variable {P : Program} {B X : Nat → Prop} {w0 : W0} {w : World} {n : Nat} {S : St} {a : Act} {ι : Nat → Option Nat} {dst : Option Nat} {ty : TypeId} {pos : String} {af : Array Edge} {gd : Option (Nat × Bool)}

theorem len_at {p : PV} {v : Value} {m : Nat} (h : PV.At w ι X p v) (hl : lenPV p = some m) : ∃ b c, v = .slice b m c := by
 cases h with
 | d x v h =>
  cases h with
  | slnil base cap => cases hl; exact ⟨_, _, rfl⟩
  | sl => cases hl; exact ⟨_, _, rfl⟩
  | _ => cases hl
 | ref => cases hl; exact ⟨_, _, rfl⟩
 | ref0 => cases hl; exact ⟨_, _, rfl⟩
 | nilS => cases hl; exact ⟨_, _, rfl⟩
 | z0 => cases hl; exact ⟨_, _, rfl⟩
 | _ => cases hl

def ReadsAs (P : Program) (w : World) (Y : Nat → Prop) (sz : Nat) (xs : List D) (v : Value) : Prop :=
 ∃ (base : Option Addr) (cap : Nat) (news : List Value), v = .slice base xs.length cap ∧ news.length = xs.length * sz ∧ (Builtin.firstCells sz xs.length v).run P w = .ok news.toArray w ∧ (∀ u ∈ news, u.oneCell' = true) ∧
  ∀ (i : Nat) d (j : Nat) e u, xs[i]? = some d → d.cells[j]? = some e → news[i * sz + j]? = some u → D.At w Y e u

theorem reads_nil {Y : Nat → Prop} {sz : Nat} (base : Option Addr) (cap : Nat) : ReadsAs P w Y sz [] (.slice base 0 cap) := by
 refine ⟨base, cap, [], rfl, by simp, ?_, by simp, by simp⟩
 cases base <;> simp [Builtin.firstCells, loadCells, loadCellsFrom]

theorem reads_block {Y : Nat → Prop} {sz : Nat} {xs : List D} {b off cap : Nat} (_hcl : ∀ d, d ∈ xs → d.cells.length = sz) (vals : Nat → Value)
  (hv : ∀ k, k < xs.length * sz → w.cell? ⟨b, off + k, none⟩ = some (vals k) ∧ (vals k).oneCell' = true)
  (hat : ∀ (i : Nat) d (j : Nat) e, xs[i]? = some d → d.cells[j]? = some e → D.At w Y e (vals (i * sz + j))) : ReadsAs P w Y sz xs (.slice (some ⟨b, off, none⟩) xs.length cap) := by
 refine ⟨_, _, (List.range (xs.length * sz)).map vals, rfl, by simp, ?_, ?_, ?_⟩
 ·refine run_firstCells_some (P := P) w sz xs.length ⟨b, off, none⟩ _ _ _ (by simp) (fun j v hj => ?_)
  rw [List.getElem?_map] at hj
  rcases Nat.lt_or_ge j (xs.length * sz) with hlt | hge
  ·rw [List.getElem?_range hlt] at hj; cases hj; rw [add_at]; exact (hv j hlt).1
  ·rw [List.getElem?_eq_none (by simpa using hge)] at hj; cases hj
 ·intro u hu
  simp only [List.mem_map, List.mem_range] at hu
  obtain ⟨k, hk, rfl⟩ := hu
  exact (hv k hk).2
 ·intro i d j e u hi hj hu
  rw [List.getElem?_map] at hu
  rcases Nat.lt_or_ge (i * sz + j) (xs.length * sz) with hlt | hge
  ·rw [List.getElem?_range hlt] at hu; cases hu; exact hat i d j e hi hj
  ·rw [List.getElem?_eq_none (by simpa using hge)] at hu; cases hu

theorem divmod_sz {l : Nat} {k sz : Nat} (h : k < l * sz) : k / sz < l ∧ k % sz < sz ∧ k / sz * sz + k % sz = k := by
 have h0 : 0 < sz := by rcases Nat.eq_zero_or_pos sz with rfl | h0; · simp at h
                        · exact h0
 exact ⟨Nat.div_lt_of_lt_mul (by rw [Nat.mul_comm]; exact h), Nat.mod_lt _ h0, by rw [Nat.mul_comm]; exact Nat.div_add_mod k sz⟩

theorem reads_d {Y : Nat → Prop} {sz : Nat} {xs : List D} {v : Value} (h : D.At w Y (.sl xs) v) (hcl : ∀ d, d ∈ xs → d.cells.length = sz) : ReadsAs P w Y sz xs v := by
 cases h with
 | slnil base cap => exact reads_nil base cap
 | sl l b off cap sz' hl hc hsz vals hv h =>
  cases xs with
  | nil => exact reads_nil _ _
  | cons x r =>
   have hs : sz' = sz := by rw [← hcl x (by simp)]; exact (hsz x (by simp)).symm
   subst hs
   have cellof : ∀ k, k < (x :: r).length * sz' → ∃ d c, (x :: r)[k / sz']? = some d ∧ d.cells[k % sz']? = some c := by
    intro k hk
    obtain ⟨h1, h2, h3⟩ := divmod_sz hk
    have hd : (x :: r)[k / sz']? = some ((x :: r)[k / sz']) := List.getElem?_eq_getElem h1
    exact ⟨_, _, hd, List.getElem?_eq_getElem (by rw [hsz _ (List.getElem_mem h1)]; exact h2)⟩
   refine reads_block hcl (fun k => vals (k / sz') (k % sz')) (fun k hk => ?_) (fun i d j e hi hj => ?_)
   ·obtain ⟨d, c, hd, hcc⟩ := cellof k hk
    obtain ⟨h1, h2, h3⟩ := divmod_sz hk
    have := hv _ d _ c hd hcc
    rw [Nat.add_assoc, h3] at this
    exact ⟨this.1, this.2.1⟩
   ·have hj2 : j < sz' := by rw [← hsz d (List.mem_of_getElem? hi)]; exact (List.getElem?_eq_some_iff.1 hj).1
    have h0 : 0 < sz' := by omega
    have e1 : (i * sz' + j) / sz' = i := by rw [Nat.mul_comm, Nat.mul_add_div h0, Nat.div_eq_of_lt hj2]; rfl
    have e2 : (i * sz' + j) % sz' = j := by rw [Nat.mul_comm, Nat.mul_add_mod]; exact Nat.mod_eq_of_lt hj2
    simp only [e1, e2]
    exact h i d j e hi hj

theorem reads_pv (hS : Hold B X w0 n S a w ι) {p : PV} {v : Value} {xs : List D} {sz : Nat} (hp : PV.At w ι X p v) (hx : srcD S.objs p = some xs) (hcl : ∀ d, d ∈ xs → d.cells.length = sz) :
  ReadsAs P w (ownX ι X) sz xs v := by
 cases p with
 | d x => cases x <;> simp [srcD] at hx; subst hx; cases hp; exact reads_d (by assumption) hcl
 | nilS => simp [srcD] at hx; subst hx; cases hp; exact reads_nil _ _
 | z0 => simp [srcD] at hx; subst hx; cases hp; exact reads_nil _ _
 | unk => simp [srcD] at hx
 | und => simp [srcD] at hx
 | ab => simp [srcD] at hx
 | mp _ => simp [srcD] at hx
 | ifp _ _ => simp [srcD] at hx
 | ref o sz' off len cap =>
  simp only [srcD] at hx
  cases hob : S.objs o with
  | dead => rw [hob] at hx; cases hx
  | imap _ => rw [hob] at hx; cases hx
  | gone => rw [hob] at hx; cases hx
  | cells cs => rw [hob] at hx; cases hx
  | row sz'' l =>
   rw [hob] at hx
   simp only at hx
   split at hx
   ·rename_i hcond
    obtain ⟨rfl, hle⟩ := hcond
    simp only [Option.some.injEq] at hx
    subst hx
    have hlen : ((l.drop off).take len).length = len := by simp; omega
    cases hp with
    | ref0 => simp only [List.take_zero]; exact reads_nil _ _
    | ref _ _ _ _ _ capr b hι hl hc hm hs =>
     by_cases hz : len = 0
     ·subst hz; simp only [List.take_zero]; exact reads_nil _ _
     have hoo := hS.objs o
     rw [hob] at hoo
     cases hoo with
     | row0 _ h => rw [h] at hι; cases hι
     | row _ _ b' c T hι' hb hsz hcl' hone h =>
      rw [hι] at hι'; cases hι'
      have hmem : ∃ d, d ∈ (l.drop off).take len := by
       have : 0 < ((l.drop off).take len).length := by omega
       exact ⟨_, List.getElem_mem this⟩
      obtain ⟨d0, hd0⟩ := hmem
      have hs : sz' = sz := by
       rw [← hcl d0 hd0, hcl' d0 (List.mem_of_mem_drop (List.mem_of_mem_take hd0))]
      subst hs
      have hroom : (off + len) * sz' ≤ c.size := Nat.le_trans (Nat.mul_le_mul_right _ hle) hsz
      have hr := reads_block (P := P) (w := w) (Y := ownX ι X) (b := b) (off := off * sz') (cap := capr) hcl (fun k => c.getD (off * sz' + k) undef) (fun k hk => by
       rw [hlen] at hk
       have hlt : off * sz' + k < c.size := by rw [Nat.add_mul] at hroom; omega
       have hg : c[off * sz' + k]? = some c[off * sz' + k] := Array.getElem?_eq_getElem hlt
       have hgd : c.getD (off * sz' + k) undef = c[off * sz' + k] := by simp [Array.getD, hlt]
       simp only [hgd]
       exact ⟨by rw [cell_arr hb, hg], hone _ _ hg⟩) (fun i d j e hi hj => by
       rw [List.getElem?_take] at hi
       split at hi
       ·rename_i hil
        rw [List.getElem?_drop] at hi
        have hjs : j < sz' := by rw [← hcl' d (List.mem_of_getElem? hi)]; exact (List.getElem?_eq_some_iff.1 hj).1
        have hlt : (off + i) * sz' + j < c.size := by
         have : (off + i + 1) * sz' ≤ (off + len) * sz' := Nat.mul_le_mul_right _ (by omega)
         rw [Nat.add_mul] at this; omega
        have hg : c[(off + i) * sz' + j]? = some c[(off + i) * sz' + j] := Array.getElem?_eq_getElem hlt
        have heq : off * sz' + (i * sz' + j) = (off + i) * sz' + j := by rw [Nat.add_mul]; omega
        simp only [heq]
        have hgd : c.getD ((off + i) * sz' + j) undef = c[(off + i) * sz' + j] := by simp [Array.getD, hlt]
        rw [hgd]
        exact h (off + i) d j e _ hi hj hg
       ·cases hi)
      rw [hlen] at hr
      exact hr
   ·cases hx
 | ptr o sz' i c => simp [srcD] at hx
 | ag cs => simp [srcD] at hx
 | tup cs => simp [srcD] at hx
 | fn f cs => simp [srcD] at hx
end hold
end Go.PS
namespace Go.PS
open Go

section hold
variable {P : Program} {B X : Nat → Prop} {w0 : W0} {w : World} {n : Nat} {S : St} {a : Act} {ι : Nat → Option Nat} {dst : Option Nat} {ty : TypeId} {pos : String} {af : Array Edge} {gd : Option (Nat × Bool)}

theorem run_append_in {t u ty' e e' : TypeId} {ie : TypeInfo} (ht : P.underlying t = some (.slice e)) (hu : P.underlying u = some (.slice e')) (hi : P.info? e = some ie)
  {g len cap m : Nat} {cur : Array Value} {T : TypeId} (hg : w.heap[g]? = some (.cells cur T (0, 0))) {x : Value} {news : List Value}
  (hx : ∃ b c, x = .slice b m c) (hf : (Builtin.firstCells ie.size m x).run P w = .ok news.toArray w) (_hnl : news.length = m * ie.size) (h1 : ∀ v ∈ news, v.oneCell' = true)
  (hroom : len + m ≤ cap) (hfit : len * ie.size + news.length ≤ cur.size) :
  (Builtin.append_ #[t, u] ty' #[.slice (some ⟨g, 0, none⟩) len cap, x]).run P w =
   .ok (.slice (some ⟨g, 0, none⟩) (len + m) cap) (w.setRow g (cur.toList.take (len * ie.size) ++ news ++ cur.toList.drop (len * ie.size + news.length)).toArray) := by
 obtain ⟨b, c, rfl⟩ := hx
 have hst := run_storeCells_at P g (len * ie.size) T news 0 cur w hg (by omega) h1
 simp only [Nat.add_zero] at hst
 simp [Builtin.append_, run_underlying ht, run_underlying hu, sizeOf, typeInfo, hi, Builtin.lenOf, hroom, hf, add_at, hst]

theorem run_append_new {t u ty' e e' : TypeId} {ie : TypeInfo} {z : Value} (ht : P.underlying t = some (.slice e)) (hu : P.underlying u = some (.slice e')) (hi : P.info? e = some ie) (hz : ie.zero = some z)
  {base : Option Addr} {len cap m : Nat} {x : Value} {olds news : List Value}
  (hx : ∃ b c, x = .slice b m c) (ho : (Builtin.firstCells ie.size len (.slice base len cap)).run P w.drew = .ok olds.toArray w.drew) (hf : (Builtin.firstCells ie.size m x).run P w.drew = .ok news.toArray w.drew)
  (hgr : cap < len + m) (hsm : len + m ≤ 1099511627776) (hby : ie.bytes ≤ 128) :
  (Builtin.append_ #[t, u] ty' #[.slice base len cap, x]).run P w =
   .ok (.slice (some ⟨w.heap.size, 0, none⟩) (len + m) (grownCap w (len + m) cap e)) (w.drew.alloc (.cells (olds.toArray ++ news.toArray ++ Builtin.zeroCells z.cells (grownCap w (len + m) cap e - (len + m))) e)) := by
 obtain ⟨b, c, rfl⟩ := hx
 have hfit : Builtin.nextslicecap (len + m) cap * ie.bytes ≤ 281474976710656 := growslice_fits hgr (by
  have : (len + m) * ie.bytes ≤ 1099511627776 * 128 := Nat.mul_le_mul hsm hby
  omega)
 have h63 : ¬ (((len + m : Nat) : Int) > IntKind.i64.max ∧ (False ∨ ie.bytes = 0)) := by
  have : IntKind.i64.max = 9223372036854775807 := by decide
  rw [this]; omega
 have hroom : ¬ (len + m ≤ cap) := by omega
 have h48 : ¬ (281474976710656 < Builtin.nextslicecap (len + m) cap * ie.bytes) := by omega
 have hmax : IntKind.i64.max = 9223372036854775807 := by decide
 simp [Builtin.append_, run_underlying ht, run_underlying hu, sizeOf, typeInfo, zeroValue, hi, hz, Builtin.lenOf, hroom, h48, Question.forced, ho, hf, newRow, grownCap, hmax]
 rw [if_neg (by omega)]
 simp
 rw [← List.append_toArray, Array.append_assoc]

theorem semAppend_cond {objs : Nat → Ob} {st xt ety : TyI} {s x : PV} (hc : (semAppend objs dst st xt ety s x).1) :
  ∃ xs t, srcD objs x = some xs ∧ dst = some t ∧ objs t = .dead ∧ st.kind = 1 ∧ xt.kind = 1 ∧ ety.zok = true ∧ ety.bytes ≤ 128 ∧ (∀ d, d ∈ xs → d.cells.length = ety.size) ∧
   ((∃ o sz len cap l, s = .ref o sz 0 len cap ∧ objs o = .row sz l ∧ sz = ety.size ∧ len ≤ l.length ∧ len + xs.length ≤ 1099511627776 ∧
     (semAppend objs dst st xt ety s x).2 = { val := .ref t sz 0 (len + xs.length) (len + xs.length), wr := [(t, .row sz (l.take len ++ xs)), (o, .gone)], rd := srcR x }) ∨
    ((s = .nilS ∨ s = .z0) ∧ xs.length ≤ 1099511627776 ∧
     (semAppend objs dst st xt ety s x).2 = { val := .ref t ety.size 0 xs.length xs.length, wr := [(t, .row ety.size xs)], rd := srcR x })) := by
 unfold semAppend at hc ⊢
 cases hx : srcD objs x with
 | none => rw [hx] at hc; exact hc.elim
 | some xs =>
  rw [hx] at hc
  cases dst with
  | none => exact hc.elim
  | some t =>
  cases s <;> try exact hc.elim
  ·rename_i o sz off len cap
   simp only at hc ⊢
   cases ho : objs o with
   | dead => rw [ho] at hc; exact hc.elim
   | gone => rw [ho] at hc; exact hc.elim
   | imap _ => rw [ho] at hc; exact hc.elim
   | cells _ => rw [ho] at hc; exact hc.elim
   | row sz' l =>
    rw [ho] at hc
    simp only at hc
    obtain ⟨h1, h2, h3, h4, h5, h0, h6, h7, h8, h9, h10⟩ := hc
    subst h7; subst h8
    exact ⟨xs, t, rfl, rfl, h0, h1, h2, h3, h4, h5, .inl ⟨o, sz, len, cap, l, rfl, ho, h6, h9, h10, rfl⟩⟩
  ·obtain ⟨h1, h2, h3, h4, h5, h0, h6⟩ := hc
   exact ⟨xs, t, rfl, rfl, h0, h1, h2, h3, h4, h5, .inr ⟨.inl rfl, h6, rfl⟩⟩
  ·obtain ⟨h1, h2, h3, h4, h5, h0, h6⟩ := hc
   exact ⟨xs, t, rfl, rfl, h0, h1, h2, h3, h4, h5, .inr ⟨.inr rfl, h6, rfl⟩⟩

theorem zeroCells_one {z : Array Value} {m : Nat} (h1 : ∀ v ∈ z.toList, v.oneCell' = true) : ∀ (j : Nat) (v : Value), (Builtin.zeroCells z m)[j]? = some v → v.oneCell' = true := by
 intro j v hj
 unfold Builtin.zeroCells at hj
 rw [Array.getElem?_map] at hj
 cases hr : (Array.range (m * z.size))[j]? with
 | none => rw [hr] at hj; cases hj
 | some q =>
  rw [hr] at hj
  simp only [Option.map_some, Option.some.injEq] at hj
  subst hj
  have hlt : j < m * z.size := by have := (Array.getElem?_eq_some_iff.1 hr).1; simpa using this
  have h0 : 0 < z.size := by rcases Nat.eq_zero_or_pos z.size with h | h
                             · rw [h] at hlt; simp at hlt
                             · exact h
  have hq : q % z.size < z.size := Nat.mod_lt _ h0
  rw [getElem!_pos z _ hq]
  exact h1 _ (by simp)

theorem row_new {Y : Nat → Prop} {sz k : Nat} {l xs : List D} {olds news : List Value} {zs : Array Value} (hol : olds.length = l.length * sz) (hnl : news.length = xs.length * sz)
  (hcl : ∀ d, d ∈ l ++ xs → d.cells.length = sz) (ho1 : ∀ u ∈ olds, u.oneCell' = true) (hn1 : ∀ u ∈ news, u.oneCell' = true) (hz1 : ∀ (j : Nat) (v : Value), zs[j]? = some v → v.oneCell' = true)
  (hoat : ∀ (i : Nat) d (j : Nat) e u, l[i]? = some d → d.cells[j]? = some e → olds[i * sz + j]? = some u → D.At w Y e u)
  (hnat : ∀ (i : Nat) d (j : Nat) e u, xs[i]? = some d → d.cells[j]? = some e → news[i * sz + j]? = some u → D.At w Y e u) (hk : zs.size = k) :
  (olds.toArray ++ news.toArray ++ zs).size = (l ++ xs).length * sz + k ∧ (∀ (j : Nat) (v : Value), (olds.toArray ++ news.toArray ++ zs)[j]? = some v → v.oneCell' = true) ∧
  ∀ (i : Nat) d (j : Nat) e v, (l ++ xs)[i]? = some d → d.cells[j]? = some e → (olds.toArray ++ news.toArray ++ zs)[i * sz + j]? = some v → D.At w Y e v := by
 refine ⟨by simp [hol, hnl, hk, Nat.add_mul], fun j v hj => ?_, fun i d j e v hi hj hv => ?_⟩
 ·rw [Array.getElem?_append, Array.getElem?_append] at hj
  split at hj
  ·split at hj
   ·exact ho1 v (List.mem_of_getElem? (by simpa using hj))
   ·exact hn1 v (List.mem_of_getElem? (by simpa using hj))
  ·exact hz1 _ v hj
 ·have hil := (List.getElem?_eq_some_iff.1 hi).1
  have hjs : j < sz := by rw [← hcl d (List.mem_of_getElem? hi)]; exact (List.getElem?_eq_some_iff.1 hj).1
  simp only [List.length_append] at hil
  have hlt : i * sz + j < (l.length + xs.length) * sz := by
   have : (i + 1) * sz ≤ (l.length + xs.length) * sz := Nat.mul_le_mul_right _ hil
   rw [Nat.add_mul] at this; omega
  rw [Nat.add_mul] at hlt
  rw [Array.getElem?_append_left (by simp [hol, hnl]; omega), Array.getElem?_append] at hv
  simp only [List.size_toArray, hol, List.getElem?_toArray] at hv
  rw [List.getElem?_append] at hi
  by_cases hc : i < l.length
  ·rw [if_pos hc] at hi
   have : (i + 1) * sz ≤ l.length * sz := Nat.mul_le_mul_right _ hc
   rw [Nat.add_mul] at this
   rw [if_pos (by omega)] at hv
   exact hoat i d j e v hi hj hv
  ·rw [if_neg hc] at hi
   have : l.length * sz ≤ i * sz := Nat.mul_le_mul_right _ (by omega)
   rw [if_neg (by omega)] at hv
   have heq : i * sz + j - l.length * sz = (i - l.length) * sz + j := by rw [Nat.sub_mul]; omega
   rw [heq] at hv
   exact hnat (i - l.length) d j e v hi hj hv
end hold
end Go.PS
namespace Go.PS
open Go

def idxM (l : List (Int × Int)) (a : Int) : Option Nat := l.findIdx? fun p => decide (p.1 = a)
theorem findNow_ints (a : Int) : ∀ (l : List (Int × Int)) (es : List MapEntry) (i : Nat), es.map (fun e => (e.key, e.val)) = l.map (fun p => (Value.int .i64 p.1, Value.int .i64 p.2)) →
  Instr.findNow (.int .i64) (.int .i64 a) es i = some ((idxM l a).map fun j => (i + j, Value.int .i64 (getM l a)))
 | [], [], i, _ => rfl
 | [], _ :: _, i, h => by simp at h
 | _ :: _, [], i, h => by simp at h
 | (x, y) :: l, e :: es, i, h => by
  simp only [List.map_cons, List.cons.injEq, Prod.mk.injEq] at h
  obtain ⟨⟨h1, h2⟩, h3⟩ := h
  have ih := findNow_ints a l es (i + 1) h3
  have hs : Instr.sameNow (.int .i64) (.int .i64 a) e.key = some (a == x) := by rw [h1]; simp [Instr.sameNow]
  rw [Instr.findNow, hs]
  by_cases c : x = a
  ·subst c
   simp [idxM, List.findIdx?_cons, getM, h2]
  ·have c2 : (a == x) = false := by simpa using fun h => c h.symm
   rw [c2]
   simp only [ih, idxM, List.findIdx?_cons, getM, decide_eq_false c, Bool.false_eq_true, if_false, if_neg c, Option.map_map]
   congr 2
   funext j
   simp only [Function.comp]
   congr 1
   omega
theorem putM_none {a : Int} (c : Int) : ∀ {l : List (Int × Int)}, idxM l a = none → putM l a c = l ++ [(a, c)]
 | [], _ => rfl
 | (x, y) :: l, h => by
  simp only [idxM, List.findIdx?_cons] at h
  by_cases hx : x = a
  ·simp [hx] at h
  ·have ih := putM_none c (l := l) (by
    simp only [hx, decide_false, Bool.false_eq_true, if_false] at h
    cases hf : idxM l a with
    | none => rfl
    | some j => rw [idxM] at hf; rw [hf] at h; cases h)
   simp [putM, hx, ih]
theorem putM_some {a : Int} (c : Int) : ∀ {l : List (Int × Int)} {j : Nat}, idxM l a = some j → putM l a c = l.set j (a, c) ∧ j < l.length ∧ ∃ y, l[j]? = some (a, y)
 | [], j, h => by simp [idxM] at h
 | (x, y) :: l, j, h => by
  simp only [idxM, List.findIdx?_cons] at h
  by_cases hx : x = a
  ·subst hx
   simp only [decide_true, if_true, Option.some.injEq] at h
   subst h
   exact ⟨by simp [putM], by simp, y, rfl⟩
  ·simp only [hx, decide_false, Bool.false_eq_true, if_false] at h
   cases hf : idxM l a with
   | none => rw [idxM] at hf; rw [hf] at h; cases h
   | some i =>
    rw [idxM] at hf; rw [hf] at h
    cases h
    obtain ⟨h1, h2, z, h3⟩ := putM_some c (l := l) (j := i) hf
    exact ⟨by simp [putM, hx, h1], by simp; omega, z, by simpa using h3⟩
theorem getM_none {a : Int} : ∀ {l : List (Int × Int)}, idxM l a = none → getM l a = 0
 | [], _ => rfl
 | (x, y) :: l, h => by
  simp only [idxM, List.findIdx?_cons] at h
  by_cases hx : x = a
  ·simp [hx] at h
  ·simp only [hx, decide_false, Bool.false_eq_true, if_false] at h
   rw [getM, if_neg hx]
   refine getM_none ?_
   cases hf : idxM l a with
   | none => rfl
   | some j => rw [idxM] at hf; rw [hf] at h; cases h

section hold
variable {P : Program} {B X : Nat → Prop} {w0 : W0} {w : World} {n : Nat} {S : St} {a : Act} {ι : Nat → Option Nat} {dst : Option Nat} {ty : TypeId} {pos : String} {af : Array Edge} {gd : Option (Nat × Bool)}

theorem run_checkInt {k : TypeId} (hk : P.underlying k = some (.int .i64)) (x : Int) (e : Bool) : (Instr.checkKey e 10000 k (.int .i64 x)).run P w = .ok () w :=
 MapKept.run_checkKey hk (by simp [MapKept.IsKey]) e 9999
theorem run_findInt {k : TypeId} (hk : P.underlying k = some (.int .i64)) {x : Int} {l : List (Int × Int)} {es : List MapEntry} (h : es.map (fun e => (e.key, e.val)) = l.map (fun p => (Value.int .i64 p.1, Value.int .i64 p.2))) :
  (Instr.findKey k (.int .i64 x) es).run P w = .ok ((idxM l x).map fun j => (j, Value.int .i64 (getM l x))) w := by
 have := findNow_ints x l es 0 h
 simp only [Nat.zero_add] at this
 exact MapKept.run_findKey hk this

theorem sim_makeMap (hS : Hold B X w0 n S a w ι) {T : TypeId} (hd : ∀ t, dst = some t → t < n) (hc : (semMakeMap (tyi P T) S.objs dst).1) :
  Goes P B X w0 n ⟨dst, .makeMap T none, ty, pos, af, gd⟩ (S.app dst (semMakeMap (tyi P T) S.objs dst).2) a w := by
 unfold semMakeMap at hc ⊢
 cases dst with
 | none => exact hc.elim
 | some t =>
  obtain ⟨_, hdead⟩ := hc
  have hold : ∀ b, b < w.heap.size → (w.alloc (.map #[] 0)).heap[b]? = w.heap[b]? := fun b hb => (MapKept.heap_alloc w _).2 b hb
  have hob : Ob.At (w.alloc (.map #[] 0)) (upd t (some w.heap.size) ι) X t (.imap []) := .imap [] w.heap.size #[] 0 (if_pos rfl) (MapKept.heap_alloc w _).1 rfl
  have h1 := hS.alloc hdead (w.alloc (.map #[] 0)) rfl rfl rfl (by simp) hold _ hob
  refine ⟨_, _, upd t (some w.heap.size) ι, .inl (by simp only [execOp]; rfl), ?_⟩
  exact h1.put (dst := some t) (x := .mp t) (v := .map (some w.heap.size)) (fun u hu => by cases hu; exact hd t rfl) (.mp t w.heap.size (if_pos rfl))

theorem mp_at {o : Nat} {v : Value} (h : PV.At w ι X (.mp o) v) : ∃ b, v = .map (some b) ∧ ι o = some b := by
 cases h with
 | mp _ b hι => exact ⟨b, rfl, hι⟩
theorem map_at (hS : Hold B X w0 n S a w ι) {o b : Nat} {l : List (Int × Int)} (ho : S.objs o = .imap l) (hι : ι o = some b) :
  ∃ es clock, w.heap[b]? = some (.map es clock) ∧ es.toList.map (fun e => (e.key, e.val)) = l.map fun p => (Value.int .i64 p.1, Value.int .i64 p.2) := by
 have := hS.objs o
 rw [ho] at this
 cases this with
 | imap _ b' es clock hι' hb he =>
  rw [hι] at hι'; cases hι'
  exact ⟨es, clock, hb, he⟩

theorem sim_lookup (hS : Hold B X w0 n S a w ι) {T : TypeId} {x y : Operand} (hd : ∀ t, dst = some t → t < n) (hx : constOk x = true) (hy : constOk y = true) (hc : (semLookup (tyi P T) S.objs (S.ev x) (S.ev y)).1) :
  Goes P B X w0 n ⟨dst, .lookup T x y false, ty, pos, af, gd⟩ (S.app dst (semLookup (tyi P T) S.objs (S.ev x) (S.ev y)).2) a w := by
 have hp := hS.ev hx
 have hq := hS.ev hy
 generalize S.ev x = p at hc hp ⊢
 generalize S.ev y = q at hc hq ⊢
 unfold semLookup at hc ⊢
 split at hc
 ·rename_i o k
  split at hc
  ·rename_i l hl
   obtain ⟨ke, e, i, hu, hk, hi, hz⟩ := kind7 hc
   obtain ⟨b, hv, hι⟩ := mp_at hp
   obtain ⟨es, clock, hb, he⟩ := map_at hS hl hι
   have hkv := d_int hq
   have hf := run_findInt (w := w) (P := P) hk (x := k) he
   simp only
   rw [app_rd]
   refine hS.goes hd (v := .int .i64 (getM l k)) ?_ (.d _ _ (.sc _ rfl))
   simp only [execOp, hv, hkv, Instr.lookup, Sem.run_bind, run_underlying hu, Result.andThen_ok, MapKept.run_getObj_map hb, Sem.run_pure, run_checkInt hk, hf]
   cases hj : idxM l k with
   | none => simp [zeroValue, typeInfo, hi, hz, getM_none hj, Result.andThen]
   | some j => simp [Result.andThen]
  ·exact hc.elim
 ·exact hc.elim
theorem bsz_map {b : Nat} {es : Array MapEntry} {clock : Nat} (hb : w.heap[b]? = some (.map es clock)) : bsz w b = 0 := by simp only [bsz, hb]
theorem goes_map (hS : Hold B X w0 n S a w ι) {o : Oper} (hdst : o.dst = none) {q b : Nat} {es es' : Array MapEntry} {clock clock' : Nat} {l l' : List (Int × Int)} (hq : S.objs q = .imap l) (hι : ι q = some b) (hb : w.heap[b]? = some (.map es clock))
  (hr : (execOp a.eval o).run P w = .ok .skip (ChangeMaps.setBlock w b (.map es' clock')))
  (he : es'.toList.map (fun e => (e.key, e.val)) = l'.map fun p => (Value.int .i64 p.1, Value.int .i64 p.2)) :
  Goes P B X w0 n o (S.app o.dst { val := .unk, wr := [(q, .imap l')] }) a w := by
 have hlive : S.objs q ≠ .gone := by rw [hq]; exact nofun
 have hnew := ChangeMaps.heap_setBlock_same hb (.map es' clock')
 have hoth : ∀ i, i ≠ b → (ChangeMaps.setBlock w b (.map es' clock')).heap[i]? = w.heap[i]? := fun i hi => ChangeMaps.heap_setBlock_other hb _ hi
 have h1 := hS.change (some b) q (.imap l') ι (ChangeMaps.setBlock w b (.map es' clock')) rfl rfl rfl (by simp [ChangeMaps.setBlock]) (fun _ _ => rfl) (fun _ h => h)
  (fun b' hb' => by
   cases hb'
   exact ⟨⟨q, hι⟩, fun o' hne hg ho' => hne (hS.inj o' q b hg hlive ho' hι), by rw [bsz_map hb, bsz_map hnew]⟩)
  (fun b' _ hne => hoth b' (fun he => hne (by rw [he])))
  (fun b' hb' => ⟨.inl ⟨hb', hlive⟩, by simp only [ChangeMaps.setBlock, Array.size_setIfInBounds]; exact (hS.free q b' hb').2⟩) (.imap l' b es' clock' hι hnew he)
 refine ⟨undef, _, ι, .inr ⟨hr, rfl⟩, ?_⟩
 rw [hdst]
 exact h1
theorem sim_mapUpdate (hS : Hold B X w0 n S a w ι) {T : TypeId} {x y z : Operand} (hdn : dst = none) (hx : constOk x = true) (hy : constOk y = true) (hz : constOk z = true) (hc : (semMapUpdate (tyi P T) S.objs (S.ev x) (S.ev y) (S.ev z)).1) :
  Goes P B X w0 n ⟨dst, .mapUpdate T x y z, ty, pos, af, gd⟩ (S.app dst (semMapUpdate (tyi P T) S.objs (S.ev x) (S.ev y) (S.ev z)).2) a w := by
 have hp := hS.ev hx
 have hq := hS.ev hy
 have hs := hS.ev hz
 generalize S.ev x = p at hc hp ⊢
 generalize S.ev y = q at hc hq ⊢
 generalize S.ev z = r at hc hs ⊢
 unfold semMapUpdate at hc ⊢
 split at hc
 ·rename_i o k v
  split at hc
  ·rename_i l hl
   obtain ⟨ke, e, i, hu, hk, hi, hiz⟩ := kind7 hc
   obtain ⟨b, hv, hι⟩ := mp_at hp
   obtain ⟨es, clock, hb, he⟩ := map_at hS hl hι
   have hkv := d_int hq
   have hvv := d_int hs
   have hf := run_findInt (w := w) (P := P) hk (x := k) he
   simp only
   cases hj : idxM l k with
   | none =>
    refine goes_map hS (o := ⟨dst, .mapUpdate T x y z, ty, pos, af, gd⟩) hdn (es' := es.push { key := .int .i64 k, val := .int .i64 v, born := clock }) (clock' := clock + 1) hl hι hb ?_ ?_
    ·rw [hj] at hf
     simp [execOp, hv, hkv, hvv, Instr.mapUpdate, run_underlying hu, MapKept.run_getObj_map hb, run_checkInt hk, hf, MapKept.run_setObj_map _ hb, Result.andThen, ChangeMaps.setBlock]
    ·rw [putM_none v hj]
     simp [he]
   | some j =>
    obtain ⟨h1, h2, y0, h3⟩ := putM_some v hj
    have hlen : es.size = l.length := by have := congrArg List.length he; simpa using this
    have hje : es[j]? = some es[j] := Array.getElem?_eq_getElem (by omega)
    have hkey : es[j].key = .int .i64 k := by
     have := congrArg (fun t => t[j]?) he
     simp only [List.getElem?_map, h3, Option.map_some, Array.getElem?_toList, hje, Option.some.injEq, Prod.mk.injEq] at this
     exact this.1
    refine goes_map hS (o := ⟨dst, .mapUpdate T x y z, ty, pos, af, gd⟩) hdn (es' := es.modify j fun e => { e with key := .int .i64 k, val := .int .i64 v }) (clock' := clock) hl hι hb ?_ ?_
    ·rw [hj] at hf
     simp only [Option.map_some] at hf
     simp [execOp, hv, hkv, hvv, Instr.mapUpdate, run_underlying hu, MapKept.run_getObj_map hb, run_checkInt hk, hf, hje, hkey, MapKept.run_keyThatStays (show MapKept.IsKey (.int .i64) (.int .i64 k) from rfl), MapKept.run_setObj_map _ hb, Result.andThen, ChangeMaps.setBlock]
    ·rw [h1]
     refine List.ext_getElem? fun u => ?_
     have hu2 := congrArg (fun t => t[u]?) he
     simp only [List.getElem?_map, Array.getElem?_toList] at hu2
     simp only [List.getElem?_map, Array.getElem?_toList, Array.getElem?_modify, List.getElem?_set]
     by_cases c : j = u
     ·subst c
      simp [hje, h2]
     ·simp only [if_neg c]; exact hu2
  ·exact hc.elim
 ·exact hc.elim
theorem sim_lenMap (hS : Hold B X w0 n S a w ι) {T : TypeId} {x : Operand} {o : Nat} {l : List (Int × Int)} (hd : ∀ t, dst = some t → t < n) (hx : constOk x = true) (hp0 : S.ev x = .mp o) (hl : S.objs o = .imap l) (hc : (tyi P T).kind = 7) :
  Goes P B X w0 n ⟨dst, .call ⟨.builtin .len, #[x], #[T]⟩, ty, pos, af, gd⟩ (S.app dst { val := .int l.length, rd := [o] }) a w := by
 have hp := hS.ev hx
 rw [hp0] at hp
 obtain ⟨ke, e, i, hu, hk, hi, hz⟩ := kind7 hc
 obtain ⟨b, hv, hι⟩ := mp_at hp
 obtain ⟨es, clock, hb, he⟩ := map_at hS hl hι
 have hlen : es.size = l.length := by have := congrArg List.length he; simpa using this
 rw [app_rd]
 refine hS.goes hd (v := .int .i64 l.length) ?_ (.d _ _ (.sc _ rfl))
 simp [execOp, resolve, invoke, builtin, Builtin.len_, hv, run_underlying hu, MapKept.run_getObj_map hb, goInt, hlen, Result.andThen]
end hold
end Go.PS
namespace Go.PS
open Go

section hold
variable {P : Program} {B X : Nat → Prop} {w0 : W0} {w : World} {n : Nat} {S : St} {a : Act} {ι : Nat → Option Nat} {dst : Option Nat} {ty : TypeId} {pos : String} {af : Array Edge} {gd : Option (Nat × Bool)}

theorem ownX_upd {o b0 : Nat} {b : Nat} (hb : ownX (upd o (some b0) ι) X b) : ownX ι X b ∨ b = b0 := by
 rcases hb with hb | ⟨o', hb⟩
 ·exact .inl (.inl hb)
 ·by_cases he : o' = o
  ·subst he; rw [upd, if_pos rfl] at hb; cases hb; exact .inr rfl
  ·rw [upd, if_neg he] at hb; exact .inl (.inr ⟨o', hb⟩)

theorem drew_below : RowKit.Below w.heap.size w w.drew := ⟨rfl, rfl, rfl, Nat.le_refl _, fun _ _ => rfl⟩

theorem append_new (hS : Hold B X w0 n S a w ι) {o : Oper} {t : Nat} (hdst : o.dst = some t) (ht : t < n) (hdead : S.objs t = .dead) {e : TypeId} {z : Value} {sz cap : Nat} {l xs : List D} {olds news : List Value}
  (hr : (execOp a.eval o).run P w = .ok (.value (.slice (some ⟨w.heap.size, 0, none⟩) (l.length + xs.length) cap)) (w.drew.alloc (.cells (olds.toArray ++ news.toArray ++ Builtin.zeroCells z.cells (cap - (l.length + xs.length))) e)))
  (hcap : l.length + xs.length ≤ cap) (hcm : cap ≤ maxLen) (hzs : z.cells.size = sz) (hz1 : ∀ v ∈ z.cells.toList, v.oneCell' = true)
  (hol : olds.length = l.length * sz) (hnl : news.length = xs.length * sz) (hcl : ∀ d, d ∈ l ++ xs → d.cells.length = sz) (ho1 : ∀ u ∈ olds, u.oneCell' = true) (hn1 : ∀ u ∈ news, u.oneCell' = true)
  (hoat : ∀ (i : Nat) d (j : Nat) e u, l[i]? = some d → d.cells[j]? = some e → olds[i * sz + j]? = some u → D.At w (ownX ι X) e u)
  (hnat : ∀ (i : Nat) d (j : Nat) e u, xs[i]? = some d → d.cells[j]? = some e → news[i * sz + j]? = some u → D.At w (ownX ι X) e u) :
  Goes P B X w0 n o (S.app o.dst { val := .ref t sz 0 (l.length + xs.length) (l.length + xs.length), wr := [(t, .row sz (l ++ xs))] }) a w := by
 obtain ⟨g1, g2, g3⟩ := row_new (w := w) (k := (cap - (l.length + xs.length)) * sz) hol hnl hcl ho1 hn1 (zeroCells_one hz1) hoat hnat (by rw [size_zeroCells, hzs])
 generalize hw' : w.drew.alloc (.cells (olds.toArray ++ news.toArray ++ Builtin.zeroCells z.cells (cap - (l.length + xs.length))) e) = w' at hr
 generalize olds.toArray ++ news.toArray ++ Builtin.zeroCells z.cells (cap - (l.length + xs.length)) = arr at *
 have hold : ∀ b, b < w.heap.size → w'.heap[b]? = w.heap[b]? := fun b hb => by subst hw'; exact heap_alloc_old w.drew _ hb
 have hnew : w'.heap[w.heap.size]? = some (.cells arr e (0, 0)) := by subst hw'; exact heap_alloc_new w.drew _
 have hsz : w'.heap.size = w.heap.size + 1 := by subst hw'; simp
 have hob : Ob.At w' (upd t (some w.heap.size) ι) X t (.row sz (l ++ xs)) :=
  .row sz (l ++ xs) w.heap.size arr e (if_pos rfl) hnew (by rw [g1]; omega) hcl g2 fun i d j e v hi hj hv =>
   (g3 i d j e v hi hj hv).mono (fun b hb => (ownX_upd hb).imp id (fun h => by omega)) (fun b hb _ => hold b hb)
 have h1 := hS.alloc hdead w' (by subst hw'; rfl) (by subst hw'; rfl) (by subst hw'; rfl) hsz hold _ hob
 refine ⟨_, _, upd t (some w.heap.size) ι, .inl hr, ?_⟩
 have h2 := h1.put (dst := o.dst) (x := .ref t sz 0 (l.length + xs.length) (l.length + xs.length)) (v := .slice (some ⟨w.heap.size, 0 * sz, none⟩) (l.length + xs.length) cap) (fun u hu => by rw [hdst] at hu; cases hu; exact ht)
  (.ref t sz 0 _ _ cap w.heap.size (if_pos rfl) hcap hcap hcm (by
   simp only [bsz, hnew, g1, List.length_append, Nat.zero_add, ← Nat.add_mul]
   congr 1; omega))
 rw [Nat.zero_mul] at h2
 rw [hdst] at h2 ⊢
 exact h2

theorem Goes.gone {o : Oper} {t q : Nat} {v : PV} {ob : Ob} (hne : t ≠ q) (h : Goes P B X w0 n o (S.app o.dst { val := v, wr := [(t, ob)] }) a w) :
  Goes P B X w0 n o (S.app o.dst { val := v, wr := [(t, ob), (q, .gone)] }) a w := by
 obtain ⟨v', w', ι', h1, h2⟩ := h
 refine ⟨v', w', ι', h1, ?_⟩
 have h3 := h2.gone q
 have e : upd q Ob.gone (S.app o.dst { val := v, wr := [(t, ob)] }).objs = (S.app o.dst { val := v, wr := [(t, ob), (q, .gone)] }).objs := by
  funext i
  simp only [St.app, wrs, upd]
  by_cases h1 : i = q
  ·subst h1; rw [if_pos rfl, if_neg (fun h => hne h.symm), if_pos rfl]
  ·by_cases h2 : i = t
   ·subst h2; rw [if_neg h1, if_pos rfl, if_pos rfl]
   ·simp only [if_neg h1, if_neg h2]
 rw [e] at h3
 exact h3

theorem sim_append (hS : Hold B X w0 n S a w ι) {t u : TypeId} {s x : Operand} (hd : ∀ t, dst = some t → t < n) (hs : constOk s = true) (hx : constOk x = true)
  (hc : (semAppend S.objs dst (tyi P t) (tyi P u) (tyi P (tyi P t).elem) (S.ev s) (S.ev x)).1) :
  Goes P B X w0 n ⟨dst, .call ⟨.builtin .append, #[s, x], #[t, u]⟩, ty, pos, af, gd⟩ (S.app dst (semAppend S.objs dst (tyi P t) (tyi P u) (tyi P (tyi P t).elem) (S.ev s) (S.ev x)).2) a w := by
 obtain ⟨xs, t', hxs, hdst, hdead, hk1, hk2, hz, hby, hcl, hcase⟩ := semAppend_cond hc
 have ht'n : t' < n := hd t' hdst
 have ht := kind1 hk1
 have hu := kind1 hk2
 obtain ⟨ie, z, hie, hiz, hzs, hisz, hiby, hz1, hne, hzz, _⟩ := zok_of hz
 generalize he : (tyi P (tyi P t).elem) = ety at *
 have hps := hS.ev hs
 have hpx := hS.ev hx
 have hxr := reads_pv (P := P) hS hpx hxs hcl
 have hSd := hS.ext (w' := w.drew) drew_below
 have hxrd := reads_pv (P := P) hSd (hSd.ev hx) hxs hcl
 obtain ⟨xb, xc, news, hxv, hnl, hf, hn1, hnat⟩ := hxr
 obtain ⟨xb', xc', news', hxv', hnl', hf', hn1', hnat'⟩ := hxrd
 have hexec : ∀ (sv : Value), a.eval s = sv → ∀ v w', (Builtin.append_ #[t, u] ty #[sv, a.eval x]).run P w = .ok v w' →
   (execOp a.eval ⟨dst, .call ⟨.builtin .append, #[s, x], #[t, u]⟩, ty, pos, af, gd⟩).run P w = .ok (.value v) w' := by
  intro sv hsv v w' hr
  simp only [execOp, resolve, invoke, builtin, Sem.run_bind, Sem.run_pure, Result.andThen_ok, List.map_toArray, List.map_cons, List.map_nil, hsv, hr]
 have hxx : ∃ b c, a.eval x = .slice b xs.length c := ⟨xb, xc, hxv⟩
 have rdrop : ∀ (q : St) (r : List Nat) (v : PV) (wr : List (Nat × Ob)), q.app dst { val := v, wr := wr, rd := r } = q.app dst { val := v, wr := wr } := fun q r v wr => rfl
 rcases hcase with ⟨o, sz, len, cap, l, hsv, hob, rfl, hlen, hroom, heq⟩ | ⟨hsv, hroom, heq⟩
 ·rw [heq, rdrop]
  rw [hsv] at hps
  have hto : t' ≠ o := fun he => by rw [he, hob] at hdead; cases hdead
  generalize hva : a.eval s = va at hps
  have hoo := hS.objs o
  rw [hob] at hoo
  cases hps with
  | ref0 _ _ _ base =>
   -- the slice has no room at all
   refine Goes.gone (P := P) (o := ⟨dst, .call ⟨.builtin .append, #[s, x], #[t, u]⟩, ty, pos, af, gd⟩) hto ?_
   by_cases hm : xs.length = 0
   ·have hx0 : xs = [] := List.eq_nil_of_length_eq_zero hm
    subst hx0
    have hn0 : news = [] := List.eq_nil_of_length_eq_zero (by simpa using hnl)
    subst hn0
    have hr : (Builtin.append_ #[t, u] ty #[.slice base 0 0, a.eval x]).run P w = .ok (.slice base 0 0) w := by
     rw [hxv] at hf ⊢
     cases base with
     | none => simp [Builtin.append_, run_underlying ht, run_underlying hu, sizeOf, typeInfo, hie, Builtin.lenOf, hisz] at hf ⊢; simp [hf]
     | some b => simp [Builtin.append_, run_underlying ht, run_underlying hu, sizeOf, typeInfo, hie, Builtin.lenOf, hisz, storeCells] at hf ⊢; simp [hf, storeCells]
    have h1 : Hold B X w0 n { env := S.env, objs := upd t' (.row ety.size (l.take 0 ++ [])) S.objs } a w ι :=
     hS.change none t' _ ι w rfl rfl rfl (Nat.le_refl _) (fun _ _ => rfl) (fun _ h => h) (fun b hb => by cases hb) (fun _ _ _ => rfl) (fun b hb => by rw [hS.dead hdead] at hb; cases hb) (.row0 _ (hS.dead hdead))
    refine ⟨_, _, ι, .inl (hexec _ hva _ _ hr), ?_⟩
    rw [hdst] at hd ⊢
    exact h1.put (dst := some t') hd (.ref0 t' ety.size 0 base)
   ·have hr := run_append_new (P := P) (w := w) (ty' := ty) ht hu hie hiz (base := base) (len := 0) (cap := 0) (m := xs.length) (x := a.eval x) (olds := []) (news := news') ⟨xb, xc, hxv⟩
     (by cases base <;> simp [Builtin.firstCells, loadCells, loadCellsFrom]) (by rw [hisz]; exact hf') (by omega) (by omega) (by omega)
    have := append_new (P := P) (o := ⟨dst, .call ⟨.builtin .append, #[s, x], #[t, u]⟩, ty, pos, af, gd⟩) hS hdst ht'n hdead (l := []) (xs := xs) (olds := []) (news := news') (sz := ety.size) (z := z) (e := (tyi P t).elem) (cap := grownCap w (0 + xs.length) 0 (tyi P t).elem)
     (by simpa using hexec _ hva _ _ hr) (by simpa using grownCap_ge w (0 + xs.length) 0 (tyi P t).elem) (grownCap_le_maxLen w _ _ _ (by simp only [maxLen]; omega)) hzs hz1 (by simp) hnl' (by simpa using hcl) (by simp) hn1' (by simp)
     (fun i d j e v hi hj hv => (hnat' i d j e v hi hj hv).mono (fun b hb => .inl hb) (fun _ _ _ => rfl))
    simpa using this
  | ref _ _ _ _ _ capr b hι hl hcc hm hss =>
   cases hoo with
   | row0 _ h => rw [h] at hι; cases hι
   | row _ _ b' c T hι' hb hsz hcl' hone h =>
    rw [hι] at hι'; cases hι'
    simp only [Nat.zero_add, bsz, hb] at hss
    have hlc : len * ety.size ≤ c.size := Nat.le_trans (Nat.mul_le_mul_right _ hlen) hsz
    -- what the slice holds
    have holds : (Builtin.firstCells ety.size len (.slice (some ⟨b, 0, none⟩) len capr)).run P w.drew = .ok (c.toList.take (len * ety.size)).toArray w.drew := by
     refine run_firstCells_some (P := P) w.drew ety.size len ⟨b, 0, none⟩ len capr _ (by simp; omega) (fun j v hj => ?_)
     rw [List.getElem?_take] at hj
     split at hj
     ·rw [add_at, Nat.zero_add, cell_arr (w := w.drew) hb]; simpa using hj
     ·cases hj
    have hol : (c.toList.take (len * ety.size)).length = (l.take len).length * ety.size := by
     simp only [List.length_take, Array.length_toList, Nat.min_eq_left hlen]; omega
    have hcl2 : ∀ d, d ∈ l.take len ++ xs → d.cells.length = ety.size := by
     intro d hd'
     rcases List.mem_append.1 hd' with hd' | hd'
     ·exact hcl' d (List.mem_of_mem_take hd')
     ·exact hcl d hd'
    have hlt : (l.take len).length = len := by simp; omega
    have hoat : ∀ (i : Nat) d (j : Nat) e v, (l.take len)[i]? = some d → d.cells[j]? = some e → (c.toList.take (len * ety.size))[i * ety.size + j]? = some v → D.At w (ownX ι X) e v := by
     intro i d j e v hi hj hv
     rw [List.getElem?_take] at hi hv
     split at hi
     ·split at hv
      ·exact h i d j e v hi hj (by simpa using hv)
      ·cases hv
     ·cases hi
    have ho1 : ∀ v ∈ c.toList.take (len * ety.size), v.oneCell' = true := fun v hv => by
     obtain ⟨j, hj⟩ := List.getElem?_of_mem (List.mem_of_mem_take hv)
     exact hone j v (by simpa using hj)
    simp only [Nat.zero_mul] at hva
    by_cases hfit : len + xs.length ≤ capr
    · -- there is room
     have hfc : len * ety.size + news.length ≤ c.size := by rw [hnl, ← hss, ← Nat.add_mul]; exact Nat.mul_le_mul_right _ hfit
     have hr := run_append_in (P := P) (w := w) (ty' := ty) ht hu hie hb (x := a.eval x) (news := news) (len := len) (cap := capr) ⟨xb, xc, hxv⟩ (by rw [hisz]; exact hf) (by rw [hisz]; exact hnl) hn1 hfit (by rw [hisz]; exact hfc)
     rw [hisz] at hr
     have hob' : Ob.At (w.setRow b (c.toList.take (len * ety.size) ++ news ++ c.toList.drop (len * ety.size + news.length)).toArray) (upd t' (some b) ι) X t' (.row ety.size (l.take len ++ xs)) := by
      have hX1 : ∀ b', ownX (upd t' (some b) ι) X b' → ownX ι X b' := fun b' hb' => (ownX_upd hb').elim id (fun he => he ▸ .inr ⟨o, hι⟩)
      refine .row _ _ b _ T (if_pos rfl) (setRow_heap w b c _ T (0, 0) hb) ?_ hcl2 (fun j v hj => ?_) (fun i d j e v hi hj hv => ?_)
      ·rw [size_splice _ _ _ hfc, List.length_append, hlt, Nat.add_mul]; omega
      ·rw [arr_splice _ _ _ hfc] at hj
       split at hj
       ·exact hone j v hj
       ·split at hj
        ·exact hn1 v (List.mem_of_getElem? hj)
        ·exact hone j v hj
      ·refine (D.At.store hS hι hb (size_splice _ _ _ hfc) ?_).sub hX1
       have hil := (List.getElem?_eq_some_iff.1 hi).1
       have hjs : j < ety.size := by rw [← hcl2 d (List.mem_of_getElem? hi)]; exact (List.getElem?_eq_some_iff.1 hj).1
       rw [arr_splice _ _ _ hfc] at hv
       rw [List.getElem?_append, hlt] at hi
       rw [List.length_append, hlt] at hil
       by_cases hcs : i < len
       ·rw [if_pos hcs] at hi
        have : (i + 1) * ety.size ≤ len * ety.size := Nat.mul_le_mul_right _ hcs
        rw [Nat.add_mul] at this
        rw [if_pos (by omega)] at hv
        rw [List.getElem?_take, if_pos hcs] at hi
        exact h i d j e v hi hj hv
       ·rw [if_neg hcs] at hi
        have h1 : len * ety.size ≤ i * ety.size := Nat.mul_le_mul_right _ (by omega)
        have h2 : (i + 1) * ety.size ≤ (len + xs.length) * ety.size := Nat.mul_le_mul_right _ hil
        rw [Nat.add_mul, Nat.add_mul] at h2
        rw [if_neg (by omega), if_pos (by omega)] at hv
        have heq2 : i * ety.size + j - len * ety.size = (i - len) * ety.size + j := by rw [Nat.sub_mul]; omega
        rw [heq2] at hv
        exact hnat (i - len) d j e v hi hj hv
     have h0 := hS.gone o
     have hdead0 : ({ env := S.env, objs := upd o .gone S.objs } : St).objs t' = .dead := by simp only [upd, if_neg hto]; exact hdead
     have h1 := h0.change (some b) t' (.row ety.size (l.take len ++ xs)) (upd t' (some b) ι) (w.setRow b (c.toList.take (len * ety.size) ++ news ++ c.toList.drop (len * ety.size + news.length)).toArray) rfl rfl rfl (by simp)
      (fun o' hne => if_neg hne) (fun b' hb' => by rw [h0.dead hdead0] at hb'; cases hb')
      (fun b' hb' => by
       cases hb'
       refine ⟨⟨o, hι⟩, fun o' hne hg ho' => ?_, by simp only [bsz, hb, setRow_heap w b c _ T (0, 0) hb, size_splice _ _ _ hfc]⟩
       have hne2 : o' ≠ o := fun he => hg (by subst he; exact if_pos rfl)
       simp only [upd, if_neg hne2] at hg
       exact hne2 (hS.inj o' o b hg (by rw [hob]; simp) ho' hι))
      (fun b' _ hne => setRow_other w b b' _ (fun he => hne (by rw [he])))
      (fun b' hb' => by
       rw [upd, if_pos rfl] at hb'; cases hb'
       refine ⟨.inr (.inr ⟨⟨o, hι⟩, fun o' hne hg ho' => ?_⟩), by rw [setRow_size]; exact (hS.free o b hι).2⟩
       have hne2 : o' ≠ o := fun he => hg (by subst he; exact if_pos rfl)
       simp only [upd, if_neg hne2] at hg
       exact hne2 (hS.inj o' o b hg (by rw [hob]; simp) ho' hι)) hob'
     refine ⟨_, _, upd t' (some b) ι, .inl (hexec _ hva _ _ hr), ?_⟩
     have h2 := h1.put (dst := dst) (x := .ref t' ety.size 0 (len + xs.length) (len + xs.length)) (v := .slice (some ⟨b, 0 * ety.size, none⟩) (len + xs.length) capr) hd
      (.ref t' ety.size 0 _ _ capr b (if_pos rfl) hfit hfit hm (by simp only [bsz, setRow_heap w b c _ T (0, 0) hb, size_splice _ _ _ hfc, Nat.zero_add, hss]))
     rw [Nat.zero_mul] at h2
     exact h2
    · -- a new array
     refine Goes.gone (P := P) (o := ⟨dst, .call ⟨.builtin .append, #[s, x], #[t, u]⟩, ty, pos, af, gd⟩) hto ?_
     have hr := run_append_new (P := P) (w := w) (ty' := ty) ht hu hie hiz (base := some ⟨b, 0, none⟩) (len := len) (cap := capr) (m := xs.length) (x := a.eval x) (olds := c.toList.take (len * ety.size)) (news := news') ⟨xb, xc, hxv⟩
      (by rw [hisz]; exact holds) (by rw [hisz]; exact hf') (by omega) (by omega) (by omega)
     have := append_new (P := P) (o := ⟨dst, .call ⟨.builtin .append, #[s, x], #[t, u]⟩, ty, pos, af, gd⟩) hS hdst ht'n hdead (l := l.take len) (xs := xs) (olds := c.toList.take (len * ety.size)) (news := news') (sz := ety.size) (z := z) (e := (tyi P t).elem) (cap := grownCap w (len + xs.length) capr (tyi P t).elem)
      (by rw [hlt]; exact hexec _ hva _ _ hr) (by rw [hlt]; exact grownCap_ge w _ _ _) (grownCap_le_maxLen w _ _ _ (by simp only [maxLen]; omega)) hzs hz1 hol hnl' hcl2 ho1 hn1' hoat
      (fun i d j e v hi hj hv => (hnat' i d j e v hi hj hv).mono (fun b hb => .inl hb) (fun _ _ _ => rfl))
     rw [hlt] at this
     exact this
 ·rw [heq, rdrop]
  have hva : ∃ base, a.eval s = .slice base 0 0 := by
   generalize a.eval s = va at hps
   rcases hsv with h | h <;> rw [h] at hps <;> cases hps <;> exact ⟨_, rfl⟩
  obtain ⟨base, hva⟩ := hva
  by_cases hm : xs.length = 0
  ·have hx0 : xs = [] := List.eq_nil_of_length_eq_zero hm
   subst hx0
   have hn0 : news = [] := List.eq_nil_of_length_eq_zero (by simpa using hnl)
   subst hn0
   have hr : (Builtin.append_ #[t, u] ty #[.slice base 0 0, a.eval x]).run P w = .ok (.slice base 0 0) w := by
    rw [hxv] at hf ⊢
    cases base with
    | none => simp [Builtin.append_, run_underlying ht, run_underlying hu, sizeOf, typeInfo, hie, Builtin.lenOf, hisz] at hf ⊢; simp [hf]
    | some b => simp [Builtin.append_, run_underlying ht, run_underlying hu, sizeOf, typeInfo, hie, Builtin.lenOf, hisz, storeCells] at hf ⊢; simp [hf, storeCells]
   have h1 : Hold B X w0 n { env := S.env, objs := upd t' (.row ety.size []) S.objs } a w ι :=
    hS.change none t' _ ι w rfl rfl rfl (Nat.le_refl _) (fun _ _ => rfl) (fun _ h => h) (fun b hb => by cases hb) (fun _ _ _ => rfl) (fun b hb => by rw [hS.dead hdead] at hb; cases hb) (.row0 _ (hS.dead hdead))
   refine ⟨_, _, ι, .inl (hexec _ hva _ _ hr), ?_⟩
   rw [hdst] at hd ⊢
   exact h1.put (dst := some t') hd (.ref0 t' ety.size 0 base)
  ·have hr := run_append_new (P := P) (w := w) (ty' := ty) ht hu hie hiz (base := base) (len := 0) (cap := 0) (m := xs.length) (x := a.eval x) (olds := []) (news := news') ⟨xb, xc, hxv⟩
    (by cases base <;> simp [Builtin.firstCells, loadCells, loadCellsFrom]) (by rw [hisz]; exact hf') (by omega) (by omega) (by omega)
   have := append_new (P := P) (o := ⟨dst, .call ⟨.builtin .append, #[s, x], #[t, u]⟩, ty, pos, af, gd⟩) hS hdst ht'n hdead (l := []) (xs := xs) (olds := []) (news := news') (sz := ety.size) (z := z) (e := (tyi P t).elem) (cap := grownCap w (0 + xs.length) 0 (tyi P t).elem)
    (by simpa using hexec _ hva _ _ hr) (by simpa using grownCap_ge w (0 + xs.length) 0 (tyi P t).elem) (grownCap_le_maxLen w _ _ _ (by simp only [maxLen]; omega)) hzs hz1 (by simp) hnl' (by simpa using hcl) (by simp) hn1' (by simp)
    (fun i d j e v hi hj hv => (hnat' i d j e v hi hj hv).mono (fun b hb => .inl hb) (fun _ _ _ => rfl))
   simpa using this
end hold
end Go.PS
