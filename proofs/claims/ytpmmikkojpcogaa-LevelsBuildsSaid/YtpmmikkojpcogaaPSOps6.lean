/- Aggregates, literals of slices, built-in functions. -/
import Derived.Test.YtpmmikkojpcogaaPSOps5
import Derived.Great.BuildSlice
namespace Go.PS
open Go

section hold
variable {P : Program} {B X : Nat → Prop} {w0 : W0} {w : World} {n : Nat} {S : St} {a : Act} {ι : Nat → Option Nat} {dst : Option Nat} {ty : TypeId} {pos : String} {af : Array Edge} {gd : Option (Nat × Bool)}

theorem foldl_zip (off : Nat) : ∀ (vs : List Value) (k : Nat) (cs : Array Value),
    ((vs.zipIdx k).foldl (fun (cs : Array Value) (cj : Value × Nat) => cs.setIfInBounds (off + cj.2) cj.1) cs).size = cs.size ∧
    ∀ j, off + k + vs.length ≤ cs.size → ((vs.zipIdx k).foldl (fun (cs : Array Value) (cj : Value × Nat) => cs.setIfInBounds (off + cj.2) cj.1) cs)[j]? =
      if j < off + k then cs[j]? else if j < off + k + vs.length then vs[j - (off + k)]? else cs[j]? := by
  intro vs
  induction vs with
  | nil => intro k cs; refine ⟨rfl, fun j _ => ?_⟩; simp; intro h1 h2; omega
  | cons v vs ih =>
    intro k cs
    obtain ⟨h1, h2⟩ := ih (k + 1) (cs.setIfInBounds (off + k) v)
    simp only [List.zipIdx_cons, List.foldl_cons]
    refine ⟨by rw [h1]; simp, fun j hl => ?_⟩
    rw [h2 j (by simp at hl ⊢; omega)]
    simp only [List.length_cons] at hl ⊢
    by_cases c1 : j < off + k
    · rw [if_pos (by omega), if_pos c1, Array.getElem?_setIfInBounds_ne (by omega)]
    · by_cases c2 : j = off + k
      · subst c2
        rw [if_pos (by omega), if_neg c1, if_pos (by omega), Array.getElem?_setIfInBounds_self_of_lt (by omega)]
        simp
      · rw [if_neg (by omega), if_neg c1]
        by_cases c3 : j < off + k + (vs.length + 1)
        · rw [if_pos (by omega), if_pos c3, show j - (off + k) = (j - (off + (k + 1))) + 1 by omega, List.getElem?_cons_succ]
        · rw [if_neg (by omega), if_neg c3, Array.getElem?_setIfInBounds_ne (by omega)]

theorem foldl_arr (off : Nat) (vs cs : Array Value) (hl : off + vs.size ≤ cs.size) :
    (vs.zipIdx.foldl (fun (cs : Array Value) (cj : Value × Nat) => cs.setIfInBounds (off + cj.2) cj.1) cs).size = cs.size ∧
    ∀ j, (vs.zipIdx.foldl (fun (cs : Array Value) (cj : Value × Nat) => cs.setIfInBounds (off + cj.2) cj.1) cs)[j]? =
      if j < off then cs[j]? else if j < off + vs.size then vs[j - off]? else cs[j]? := by
  have := foldl_zip off vs.toList 0 cs
  rw [← Array.foldl_toList, Array.toList_zipIdx]
  refine ⟨this.1, fun j => ?_⟩
  rw [this.2 j (by simpa using hl)]
  simp

/-- Cells and their values. -/
def CellsAt (w : World) (ι : Nat → Option Nat) (X : Nat → Prop) (cs : List PV) (arr : Array Value) : Prop :=
  arr.size = cs.length ∧ (∀ (j : Nat) (v : Value), arr[j]? = some v → v.oneCell' = true) ∧ ∀ (j : Nat) p v, cs[j]? = some p → arr[j]? = some v → PV.At w ι X p v

theorem fill_at (pl : Nat → Option (Nat × Nat)) : ∀ (ps : List (Nat × PV)) (vs : List (Nat × Value)) (cs cs' : List PV) (arr : Array Value),
    ps.length = vs.length → (∀ (k : Nat) p v, ps[k]? = some p → vs[k]? = some v → p.1 = v.1 ∧ PV.At w ι X p.2 v.2) → CellsAt w ι X cs arr → fillP pl cs ps = some cs' →
    ∃ arr', Instr.fill pl arr vs = some arr' ∧ CellsAt w ι X cs' arr' := by
  intro ps
  induction ps with
  | nil =>
    intro vs cs cs' arr hl _ hc hf
    cases vs with
    | nil => cases hf; exact ⟨arr, rfl, hc⟩
    | cons _ _ => cases hl
  | cons p ps ih =>
    intro vs cs cs' arr hl hr hc hf
    cases vs with
    | nil => cases hl
    | cons v vs =>
      obtain ⟨i, x⟩ := p
      obtain ⟨i', y⟩ := v
      obtain ⟨hi, hxy⟩ := hr 0 _ _ rfl rfl
      simp only at hi hxy
      subst hi
      simp only [fillP] at hf
      simp only [Instr.fill]
      cases hp : pl i with
      | none => rw [hp] at hf; cases hf
      | some q =>
        obtain ⟨off, sz⟩ := q
        rw [hp] at hf
        cases hxc : x.cells? with
        | none => rw [hxc] at hf; cases hf
        | some xs =>
          rw [hxc] at hf
          simp only at hf ⊢
          split at hf
          · rename_i hcond
            obtain ⟨h1, h2, h3⟩ := hxy.cells hxc
            have hle : off + y.cells.size ≤ arr.size := by rw [h1, hc.1]; omega
            rw [if_neg (by simp only [Bool.or_eq_true, decide_eq_true_eq, not_or]; omega)]
            obtain ⟨f1, f2⟩ := foldl_arr off y.cells arr hle
            refine ih vs _ cs' _ (by simpa using hl) (fun k p v hk hv => hr (k + 1) p v (by simpa using hk) (by simpa using hv)) ⟨?_, ?_, ?_⟩ hf
            · rw [f1, hc.1]; simp [splice]; omega
            · intro j u hu
              rw [f2] at hu
              split at hu
              · exact hc.2.1 j u hu
              · split at hu
                · exact h2 _ u hu
                · exact hc.2.1 j u hu
            · intro j q u hq hu
              rw [f2] at hu
              rw [getElem?_splice cs off xs (by omega)] at hq
              split at hq
              · rename_i c1; rw [if_pos c1] at hu; exact hc.2.2 j q u hq hu
              · rename_i c1; rw [if_neg c1] at hu
                split at hq
                · rename_i c2; rw [if_pos (by omega)] at hu; exact h3 _ q u hq hu
                · rename_i c2; rw [if_neg (by omega)] at hu; exact hc.2.2 j q u hq hu
          · cases hf

theorem sim_build (hS : Hold B X w0 n S a w ι) {T : TypeId} {ps : Array (Nat × Operand)} (hd : ∀ t, dst = some t → t < n) (hx : ∀ p ∈ ps.toList, constOk p.2 = true)
    (hc : (semBuild (tyi P T) (ps.toList.map fun p => (p.1, S.ev p.2))).1) :
    Goes P B X w0 n ⟨dst, .build T ps, ty, pos, af, gd⟩ (S.app dst (semBuild (tyi P T) (ps.toList.map fun p => (p.1, S.ev p.2))).2) a w := by
  unfold semBuild at hc ⊢
  cases hf : fillP ((tyi P T).places[·]?) ((tyi P T).zero.map cellPV) (ps.toList.map fun p => (p.1, S.ev p.2)) with
  | none => rw [hf] at hc; exact hc.elim
  | some cs =>
    rw [hf] at hc
    obtain ⟨hz, hb⟩ := hc
    simp only
    rw [app_v]
    obtain ⟨i, z, hi, hiz, hzs, hz1, hne, hzz⟩ := zok_zero hz
    have h0 : CellsAt w ι X ((tyi P T).zero.map cellPV) z.cells := by
      refine ⟨by simp [hzz], fun j v hj => hz1 v (by simpa using Array.mem_of_getElem? hj), fun j p v hj hv => ?_⟩
      rw [hzz, List.getElem?_map, Array.getElem?_toList, hv] at hj
      cases hj
      exact cellPV_at (hz1 v (by simpa using Array.mem_of_getElem? hv))
    obtain ⟨arr, ha, hat⟩ := fill_at ((tyi P T).places[·]?) (ps.toList.map fun p => (p.1, S.ev p.2)) (ps.toList.map fun p => (p.1, a.eval p.2)) _ cs z.cells (by simp)
      (fun k p v hk hv => by
        rw [List.getElem?_map] at hk hv
        cases hp : ps.toList[k]? with
        | none => rw [hp] at hk; cases hk
        | some q =>
          rw [hp] at hk hv; cases hk; cases hv
          exact ⟨rfl, hS.ev (hx q (List.mem_of_getElem? hp))⟩) h0 hf
    have hbuilt : P.built T ((ps.map fun (i, x) => (i, a.eval x))).toList = some arr := by
      simp only [tyi] at hb ha
      unfold Program.built
      cases hu : P.underlying T with
      | none => rw [hu] at hb; cases hb
      | some dd =>
        rw [hu] at hb ha
        cases dd <;> simp only at hb ha <;> try (cases hb; done)
        rename_i fs
        simp only [hi, hiz]
        cases hm : fs.toList.mapM (fun f => (P.info? f.type).map fun i => (f.offset, i.size)) with
        | none => rw [hm] at hb; cases hb
        | some pl =>
          rw [hm] at ha
          simp only [Option.getD_some] at ha
          simp only [Array.toList_map]
          rw [← ha]
          congr 1
          funext k
          simp
    have hr := Go.run_build (P := P) w T (ps.map fun (i, x) => (i, a.eval x)) arr hbuilt
    exact hS.goes hd (by simp only [execOp, Sem.run_bind, hr, Result.andThen_ok, Sem.run_pure]) (.ag cs arr hat.1 hat.2.1 hat.2.2)

/-- A row's elements in an array of cells. -/
def RowAt (w : World) (Y : Nat → Prop) (sz : Nat) (l : List D) (arr : Array Value) : Prop :=
  arr.size = l.length * sz ∧ (∀ d, d ∈ l → d.cells.length = sz) ∧ (∀ (j : Nat) (v : Value), arr[j]? = some v → v.oneCell' = true) ∧
  ∀ (i : Nat) d (j : Nat) e v, l[i]? = some d → d.cells[j]? = some e → arr[i * sz + j]? = some v → D.At w Y e v

theorem elems_at (sz : Nat) : ∀ (ps : List (Nat × Option D)) (vs : List (Nat × Value)) (l l' : List D) (arr : Array Value),
    ps.length = vs.length → (∀ (k : Nat) p v, ps[k]? = some p → vs[k]? = some v → p.1 = v.1 ∧ ∀ d, p.2 = some d → D.At w (ownX ι X) d v.2) → RowAt w (ownX ι X) sz l arr → elemsF sz l ps = some l' →
    ∃ arr', Instr.fill (fun i => some (i * sz, sz)) arr vs = some arr' ∧ RowAt w (ownX ι X) sz l' arr' ∧ l'.length = l.length := by
  intro ps
  induction ps with
  | nil =>
    intro vs l l' arr hl _ hc hf
    cases vs with
    | nil => simp [elemsF] at hf; subst hf; exact ⟨arr, rfl, hc, rfl⟩
    | cons _ _ => cases hl
  | cons p ps ih =>
    intro vs l l' arr hl hr hc hf
    cases vs with
    | nil => cases hl
    | cons v vs =>
      obtain ⟨i, x⟩ := p
      obtain ⟨i', y⟩ := v
      obtain ⟨hi, hxy⟩ := hr 0 _ _ rfl rfl
      simp only at hi hxy
      subst hi
      cases x with
      | none => simp [elemsF] at hf
      | some d =>
        simp only [elemsF] at hf
        split at hf
        · rename_i hcond
          obtain ⟨hlt, hsz, hnt⟩ := hcond
          obtain ⟨h1, h2, h3⟩ := (hxy d rfl).cells (by rintro q rfl; simp [D.notTup] at hnt)
          have hroom : i * sz + sz ≤ arr.size := by
            have : (i + 1) * sz ≤ l.length * sz := Nat.mul_le_mul_right _ hlt
            rw [Nat.add_mul] at this; rw [hc.1]; omega
          simp only [Instr.fill]
          rw [if_neg (by simp only [Bool.or_eq_true, decide_eq_true_eq, not_or]; omega)]
          obtain ⟨f1, f2⟩ := foldl_arr (i * sz) y.cells arr (by omega)
          suffices hra : RowAt w (ownX ι X) sz (l.set i d) (y.cells.zipIdx.foldl (fun (cs : Array Value) (cj : Value × Nat) => cs.setIfInBounds (i * sz + cj.2) cj.1) arr) by
            obtain ⟨arr', e1, e2, e3⟩ := ih vs (l.set i d) l' _ (by simpa using hl) (fun k p v hk hv => hr (k + 1) p v (by simpa using hk) (by simpa using hv)) hra hf
            exact ⟨arr', e1, e2, by simpa using e3⟩
          refine ⟨?_, ?_, ?_, ?_⟩
          · rw [f1, hc.1, List.length_set]
          · intro e he
            rcases List.mem_or_eq_of_mem_set he with he | rfl
            · exact hc.2.1 e he
            · exact hsz
          · intro j u hu
            rw [f2] at hu
            split at hu
            · exact hc.2.2.1 j u hu
            · split at hu
              · exact h2 _ u hu
              · exact hc.2.2.1 j u hu
          · intro k e j q u he hq hu
            rw [f2] at hu
            by_cases hk : k = i
            · subst hk
              rw [List.getElem?_set_self hlt] at he
              cases he
              have hjs : j < sz := by rw [← hsz]; exact (List.getElem?_eq_some_iff.1 hq).1
              rw [if_neg (by omega), if_pos (by omega)] at hu
              exact h3 j q u hq (by rw [show k * sz + j - k * sz = j by omega] at hu; exact hu)
            · rw [List.getElem?_set_ne (Ne.symm hk)] at he
              have hjs : j < sz := by rw [← hc.2.1 e (List.mem_of_getElem? he)]; exact (List.getElem?_eq_some_iff.1 hq).1
              have hout : k * sz + j < i * sz ∨ i * sz + sz ≤ k * sz + j := by
                rcases Nat.lt_or_gt_of_ne hk with hlt' | hgt
                · left
                  have : (k + 1) * sz ≤ i * sz := Nat.mul_le_mul_right _ hlt'
                  rw [Nat.add_mul] at this; omega
                · right
                  have : (i + 1) * sz ≤ k * sz := Nat.mul_le_mul_right _ hgt
                  rw [Nat.add_mul] at this; omega
              rcases hout with ho | ho
              · rw [if_pos ho] at hu; exact hc.2.2.2 k e j q u he hq hu
              · rw [if_neg (by omega), if_neg (by omega)] at hu; exact hc.2.2.2 k e j q u he hq hu
        · cases hf

theorem cellD_at {v : Value} {Y : Nat → Prop} (h : v.oneCell' = true) : D.At w Y (cellD v) v := by
  unfold cellD
  split
  · exact .slnil none 0
  · exact .sc v h

theorem cellD_cells {v : Value} : (cellD v).cells = [cellD v] := by
  unfold cellD
  split <;> rfl

theorem ofCells_cells (agg : Bool) (vs : List Value) (h : agg = false → vs.length = 1) : (D.ofCells agg (vs.map cellD)).cells = vs.map cellD := by
  unfold D.ofCells
  cases agg with
  | true => rfl
  | false =>
    have := h rfl
    match vs, this with
    | [v], _ => exact cellD_cells

/-- The array of zero elements. -/
theorem zeros_at {z : Array Value} {sz m : Nat} {agg : Bool} (hz : z.size = sz) (h1 : ∀ v ∈ z.toList, v.oneCell' = true) (h0 : sz ≠ 0) (ha : agg = false → sz = 1) {Y : Nat → Prop} :
    RowAt w Y sz (List.replicate m (.ofCells agg (z.toList.map cellD))) ((Array.range (m * sz)).map (fun k => z[k % z.size]!)) := by
  have hcl : (D.ofCells agg (z.toList.map cellD)).cells = z.toList.map cellD := ofCells_cells agg z.toList (fun h => by simp [hz, ha h])
  refine ⟨by simp, fun d hd => ?_, fun j v hj => ?_, fun i d j e v hi he hv => ?_⟩
  · rw [List.eq_of_mem_replicate hd, hcl]; simp [hz]
  · rw [Array.getElem?_map] at hj
    cases hr : (Array.range (m * sz))[j]? with
    | none => rw [hr] at hj; cases hj
    | some q =>
      rw [hr] at hj
      simp only [Option.map_some, Option.some.injEq] at hj
      subst hj
      have hlt : q % z.size < z.size := Nat.mod_lt _ (by omega)
      rw [getElem!_pos z _ hlt]
      exact h1 _ (by simp)
  · have hil := (List.getElem?_eq_some_iff.1 hi).1
    simp only [List.length_replicate] at hil
    rw [List.getElem?_replicate] at hi
    split at hi
    · cases hi
      rw [hcl, List.getElem?_map] at he
      cases hq : z.toList[j]? with
      | none => rw [hq] at he; cases he
      | some q =>
        rw [hq] at he; cases he
        have hjl := (List.getElem?_eq_some_iff.1 hq).1
        simp only [Array.length_toList] at hjl
        have hlt : i * sz + j < m * sz := by
          have : (i + 1) * sz ≤ m * sz := Nat.mul_le_mul_right _ hil
          rw [Nat.add_mul] at this; omega
        rw [Array.getElem?_map, Array.getElem?_range] at hv
        simp only [hlt, if_true, Option.map_some, Option.some.injEq] at hv
        have hmod : (i * sz + j) % z.size = j := by rw [hz, Nat.mul_comm, Nat.mul_add_mod]; exact Nat.mod_eq_of_lt (by omega)
        rw [hmod, getElem!_pos z j hjl] at hv
        rw [Array.getElem?_toList, Array.getElem?_eq_getElem hjl] at hq
        cases hq
        subst hv
        exact cellD_at (h1 _ (by simp))
    · rename_i hn; exact absurd hil hn
end hold
end Go.PS
