/- Literals of slices; what a longer world keeps. -/
import Derived.Test.YtpmmikkojpcogaaPSOps6
namespace Go.PS
open Go

section hold
variable {P : Program} {B X : Nat → Prop} {w0 : W0} {w : World} {n : Nat} {S : St} {a : Act} {ι : Nat → Option Nat} {dst : Option Nat} {ty : TypeId} {pos : String} {af : Array Edge} {gd : Option (Nat × Bool)}

/-- A world with more blocks. -/
theorem Hold.ext (h : Hold B X w0 n S a w ι) {w' : World} (hb : RowKit.Below w.heap.size w w') : Hold B X w0 n S a w' ι := by
  have h1 : ∀ o b, ι o = some b → ι o = some b ∧ bsz w' b = bsz w b := fun o b hob => ⟨hob, by simp only [bsz, hb.block b (h.free o b hob).2]⟩
  have h2 : ∀ b, ownX ι X b → ownX ι X b ∨ w.heap.size ≤ b := fun b hb => .inl hb
  have h3 : ∀ b, b < w.heap.size → ¬ ownX ι X b → w'.heap[b]? = w.heap[b]? := fun b hlt _ => hb.block b hlt
  refine ⟨h.size, h.defers, ⟨hb.os.trans h.frame.os, hb.tape.trans h.frame.tape, hb.output.trans h.frame.output, Nat.le_trans h.frame.size hb.size, fun b hB => ?_⟩, h.hB, h.hXB, h.inj,
    fun o b hob => ⟨(h.free o b hob).1, Nat.lt_of_lt_of_le (h.free o b hob).2 hb.size⟩, fun t => (h.env t).move h1 h2 h3, fun o => ?_, fun o b hb0 => ?_⟩
  · rw [← h.frame.keep b hB]; exact hb.block b (Nat.lt_of_lt_of_le (h.hB b hB) h.frame.size)
  · exact (h.objs o).move rfl (fun _ b hob => hb.block b (h.free o b hob).2) h1 h2 h3
  · obtain ⟨g1, g2, g3⟩ := h.stay o b hb0
    exact ⟨g1, g2, (h1 o b g2).2.trans g3⟩

theorem Hold.ownlt (h : Hold B X w0 n S a w ι) {b : Nat} (hb : ownX ι X b) : b < w.heap.size := by
  rcases hb with hb | ⟨o, hb⟩
  · exact Nat.lt_of_lt_of_le (h.hX b hb) h.frame.size
  · exact (h.free o b hb).2

/-- Data that the state sees without its objects. -/
theorem toD_at {objs : Nat → Ob} : ∀ (k : Nat) (p : PV) (v : Value) (d : D), toD objs k p = some d → p.refs objs k = [] → PV.At w ι X p v → D.At w (ownX ι X) d v := by
  intro k
  induction k with
  | zero => intro p v d h; simp [toD] at h
  | succ k ih =>
    intro p v d h hr hp
    have list : ∀ (cs : List PV) (ds : List D) (arr : Array Value), cs.mapM (toD objs k) = some ds → cs.flatMap (PV.refs objs k) = [] →
        (∀ (j : Nat) p v, cs[j]? = some p → arr[j]? = some v → PV.At w ι X p v) → ds.length = cs.length ∧ ∀ (j : Nat) d v, ds[j]? = some d → arr[j]? = some v → D.At w (ownX ι X) d v := by
      intro cs
      induction cs with
      | nil => intro ds arr hm _ _; simp at hm; subst hm; simp
      | cons c cs ihc =>
        intro ds arr hm hf hat
        simp only [List.mapM_cons] at hm
        cases hc : toD objs k c with
        | none => rw [hc] at hm; cases hm
        | some e =>
          rw [hc] at hm
          cases hm2 : cs.mapM (toD objs k) with
          | none => rw [hm2] at hm; cases hm
          | some es =>
            rw [hm2] at hm; cases hm
            simp only [List.flatMap_cons, List.append_eq_nil_iff] at hf
            obtain ⟨g1, g2⟩ := ihc es (arr.extract 1 arr.size) hm2 hf.2 (fun j p v hj hv => by
              rw [Array.getElem?_extract] at hv
              split at hv
              · exact hat (j + 1) p v (by simpa using hj) (by rw [Nat.add_comm]; exact hv)
              · cases hv)
            refine ⟨by simp [g1], fun j d v hj hv => ?_⟩
            cases j with
            | zero => simp at hj; subst hj; exact ih c v e hc hf.1 (hat 0 c v rfl hv)
            | succ j =>
              refine g2 j d v (by simpa using hj) ?_
              have hlt := (Array.getElem?_eq_some_iff.1 hv).1
              rw [Array.getElem?_extract]
              rw [if_pos (by simp; omega), Nat.add_comm]; exact hv
    cases p with
    | d x => simp [toD] at h; subst h; cases hp; assumption
    | nilS => simp [toD] at h; subst h; cases hp; exact .slnil none 0
    | z0 => simp [toD] at h; subst h; cases hp; exact .slnil _ 0
    | unk => simp [toD] at h
    | und => simp [toD] at h
    | ab => simp [toD] at h
    | ref o sz off len cap =>
      exfalso
      simp only [PV.refs] at hr
      split at hr <;> simp at hr
    | ptr o sz i c =>
      exfalso
      simp only [PV.refs] at hr
      split at hr <;> simp at hr
    | ag cs =>
      simp only [toD] at h
      cases hm : cs.mapM (toD objs k) with
      | none => rw [hm] at h; cases h
      | some ds =>
        rw [hm] at h; cases h
        cases hp with
        | ag _ arr hsz hone hat =>
          obtain ⟨g1, g2⟩ := list cs ds arr hm (by simpa [PV.refs] using hr) hat
          exact .ag ds arr (by omega) hone g2
    | tup cs =>
      simp only [toD] at h
      cases hm : cs.mapM (toD objs k) with
      | none => rw [hm] at h; cases h
      | some ds =>
        rw [hm] at h; cases h
        cases hp with
        | tup _ arr hsz hat =>
          obtain ⟨g1, g2⟩ := list cs ds arr hm (by simpa [PV.refs] using hr) hat
          exact .tup ds arr (by omega) g2
    | fn f cs =>
      simp only [toD] at h
      cases hm : cs.mapM (toD objs k) with
      | none => rw [hm] at h; cases h
      | some ds =>
        rw [hm] at h; cases h
        cases hp with
        | fn _ _ arr hsz hat =>
          obtain ⟨g1, g2⟩ := list cs ds arr hm (by simpa [PV.refs] using hr) hat
          exact .fn f ds arr (by omega) g2

theorem zok_of {t : TypeId} (h : (tyi P t).zok = true) : ∃ i z, P.info? t = some i ∧ i.zero = some z ∧ z.cells.size = (tyi P t).size ∧ i.size = (tyi P t).size ∧ i.bytes = (tyi P t).bytes ∧ (∀ v ∈ z.cells.toList, v.oneCell' = true) ∧ (tyi P t).size ≠ 0 ∧ (tyi P t).zero = z.cells.toList ∧ ((tyi P t).agg = false → (tyi P t).size = 1 ∨ True) := by
  obtain ⟨i, z, hi, hiz, hzs, hz1, hne, hzz⟩ := zok_zero h
  exact ⟨i, z, hi, hiz, hzs, by simp [tyi, Program.cellsOf, hi], by simp [tyi, Program.bytesOf, hi], hz1, hne, hzz, fun _ => .inr trivial⟩

theorem sim_buildSlice (hS : Hold B X w0 n S a w ι) {T : TypeId} {m : Nat} {ow : Bool} {ps : Array (Nat × Operand)} (hd : ∀ t, dst = some t → t < n) (hx : ∀ p ∈ ps.toList, constOk p.2 = true)
    (hc : (semBuildSlice S.objs dst ow (tyi P T) (tyi P (tyi P T).elem) m (ps.toList.map fun p => (p.1, S.ev p.2))).1) :
    Goes P B X w0 n ⟨dst, .buildSlice T m ps, ty, pos, af, gd⟩ (S.app dst (semBuildSlice S.objs dst ow (tyi P T) (tyi P (tyi P T).elem) m (ps.toList.map fun p => (p.1, S.ev p.2))).2) a w := by
  unfold semBuildSlice at hc ⊢
  generalize hls : elemsF (tyi P (tyi P T).elem).size (List.replicate m (.ofCells (tyi P (tyi P T).elem).agg ((tyi P (tyi P T).elem).zero.map cellD))) ((ps.toList.map fun p => (p.1, S.ev p.2)).map fun p => (p.1, toD S.objs 4 p.2)) = res at hc ⊢
  cases res with
  | none => exact hc.elim
  | some l =>
    simp only at hc ⊢
    have hmain : (tyi P T).kind = 1 ∧ (tyi P (tyi P T).elem).zok = true ∧ m * (tyi P (tyi P T).elem).size ≤ 16777216 ∧ ((ps.toList.map fun p => (p.1, S.ev p.2)).map (·.2)).flatMap (PV.refs S.objs 4) = [] := by
      cases ow with
      | true =>
        cases dst with
        | none => exact hc.elim
        | some t => exact ⟨hc.1, hc.2.1, hc.2.2.1, hc.2.2.2.1⟩
      | false => exact hc
    obtain ⟨hk, hz, hm, hrefs⟩ := hmain
    have hu := kind1 hk
    obtain ⟨ie, z, hie, hiz, hzs, hisz, _, hz1, hne, hzz, _⟩ := zok_of hz
    have hagg := zok_agg hz
    generalize he : (tyi P (tyi P T).elem) = ety at *
    have h0 : RowAt w (ownX ι X) ety.size (List.replicate m (.ofCells ety.agg (ety.zero.map cellD))) ((Array.range (m * ety.size)).map (fun k => z.cells[k % z.cells.size]!)) := by
      rw [hzz]; exact zeros_at hzs hz1 hne hagg
    obtain ⟨arr, ha, hat, hll⟩ := elems_at (w := w) (ι := ι) (X := X) ety.size _ (ps.toList.map fun p => (p.1, a.eval p.2)) _ l _ (by simp)
      (fun k p v hk hv => by
        rw [List.getElem?_map] at hv
        rw [List.map_map, List.getElem?_map] at hk
        cases hp : ps.toList[k]? with
        | none => rw [hp] at hk; cases hk
        | some q =>
          rw [hp] at hk hv; cases hk; cases hv
          refine ⟨rfl, fun d hdd => ?_⟩
          have hmem : q ∈ ps.toList := List.mem_of_getElem? hp
          refine toD_at 4 (S.ev q.2) _ d hdd ?_ (hS.ev (hx q hmem))
          rw [List.flatMap_eq_nil_iff] at hrefs
          exact hrefs _ (by simp only [List.map_map, List.mem_map, Function.comp]; exact ⟨q, hmem, rfl⟩)) h0 hls
    simp only [List.length_replicate] at hll
    have hpos : m * ie.size = 0 → False ∨ True := fun _ => .inr trivial
    have hr : (Instr.buildSlice T m (ps.map fun (i, x) => (i, a.eval x))).run P w = .ok (.slice (some ⟨w.heap.size, 0, none⟩) m m) (w.alloc (.cells arr (tyi P T).elem)) := by
      by_cases hm0 : m = 0
      · subst hm0
        simp only [Nat.zero_mul] at ha
        simp only [Instr.buildSlice, Sem.run_bind, run_underlying hu, Result.andThen_ok, sizeOf, typeInfo, hie, run_program, Sem.run_pure, Nat.zero_mul]
        have e0 : ∀ f : Nat → Value, (Array.range 0).map f = #[] := fun f => Array.eq_empty_of_size_eq_zero (by simp)
        rw [e0] at ha
        simp [hisz, newRow]
        rw [e0]
        have ha' : Instr.fill (fun i => some (i * ety.size, ety.size)) #[] (ps.toList.map fun (x : Nat × Operand) => (x.1, a.eval x.2)) = some arr := ha
        rw [ha']
        simp
      · have hz0 : m * ie.size ≠ 0 := by rw [hisz]; exact Nat.mul_ne_zero hm0 hne
        simp only [Instr.buildSlice, Sem.run_bind, run_underlying hu, Result.andThen_ok, sizeOf, typeInfo, hie, run_program, Sem.run_pure, Sem.run_ite]
        rw [hisz] at hz0 ⊢
        simp only [show ¬ (m * ety.size > 2 ^ 24) by omega, if_false, Sem.run_pure, Result.andThen_ok, hz0, Sem.run_bind, zeroValue, typeInfo, hie, hiz, run_program]
        simp only [Array.toList_map]
        have ha' : Instr.fill (fun i => some (i * ety.size, ety.size)) ((Array.range (m * ety.size)).map (fun k => z.cells[k % z.cells.size]!)) (ps.toList.map fun (i, x) => (i, a.eval x)) = some arr := ha
        rw [ha']
        simp [newRow]
    have hrun : (execOp a.eval ⟨dst, .buildSlice T m ps, ty, pos, af, gd⟩).run P w = .ok (.value (.slice (some ⟨w.heap.size, 0, none⟩) m m)) (w.alloc (.cells arr (tyi P T).elem)) := by
      simp only [execOp, Sem.run_bind, hr, Result.andThen_ok, Sem.run_pure]
    have hold : ∀ b, b < w.heap.size → (w.alloc (.cells arr (tyi P T).elem)).heap[b]? = w.heap[b]? := fun b hb => heap_alloc_old w _ hb
    have hmax : m ≤ maxLen := by
      have : m * 1 ≤ m * ety.size := Nat.mul_le_mul_left _ (by omega)
      simp only [maxLen]; omega
    cases ow with
    | false =>
      simp only [Bool.false_eq_true, if_false]
      rw [app_v]
      have hS' := hS.ext (w' := w.alloc (.cells arr (tyi P T).elem)) ⟨rfl, rfl, rfl, by simp, hold⟩
      refine ⟨_, _, ι, .inl hrun, hS'.put hd (.d _ _ ?_)⟩
      have := D.At.sl (w := w.alloc (.cells arr (tyi P T).elem)) (X := ownX ι X) l w.heap.size 0 m ety.size (by omega) hmax hat.2.1 (fun i j => arr.getD (i * ety.size + j) undef) (fun i d j c hi hj => ?_) (fun i d j c hi hj => ?_)
      · rw [hll] at this; exact this
      · have hil := (List.getElem?_eq_some_iff.1 hi).1
        have hjl : j < ety.size := by rw [← hat.2.1 d (List.mem_of_getElem? hi)]; exact (List.getElem?_eq_some_iff.1 hj).1
        have hlt : i * ety.size + j < arr.size := by
          have : (i + 1) * ety.size ≤ l.length * ety.size := Nat.mul_le_mul_right _ hil
          rw [Nat.add_mul] at this; rw [hat.1]; omega
        have hg : arr[i * ety.size + j]? = some arr[i * ety.size + j] := Array.getElem?_eq_getElem hlt
        have hgd : arr.getD (i * ety.size + j) undef = arr[i * ety.size + j] := by simp [Array.getD, hlt]
        simp only [hgd]
        refine ⟨?_, hat.2.2.1 _ _ hg, fun ho => ?_⟩
        · rw [Nat.zero_add, cell_arr (heap_alloc_new w _), hg]
        · have := hS.ownlt ho; omega
      · have hil := (List.getElem?_eq_some_iff.1 hi).1
        have hjl : j < ety.size := by rw [← hat.2.1 d (List.mem_of_getElem? hi)]; exact (List.getElem?_eq_some_iff.1 hj).1
        have hlt : i * ety.size + j < arr.size := by
          have : (i + 1) * ety.size ≤ l.length * ety.size := Nat.mul_le_mul_right _ hil
          rw [Nat.add_mul] at this; rw [hat.1]; omega
        have hg : arr[i * ety.size + j]? = some arr[i * ety.size + j] := Array.getElem?_eq_getElem hlt
        have hgd : arr.getD (i * ety.size + j) undef = arr[i * ety.size + j] := by simp [Array.getD, hlt]
        simp only [hgd]
        exact (hat.2.2.2 i d j c _ hi hj hg).mono (fun b hb => .inl hb) (fun b hb _ => hold b hb)
    | true =>
      cases dst with
      | none => exact hc.elim
      | some t =>
        have hdead : S.objs t = .dead := hc.2.2.2.2
        simp only [if_true]
        have hob : Ob.At (w.alloc (.cells arr (tyi P T).elem)) (upd t (some w.heap.size) ι) X t (.row ety.size l) :=
          .row ety.size l w.heap.size arr (tyi P T).elem (if_pos rfl) (heap_alloc_new w _) (by rw [hat.1]; exact Nat.le_refl _) hat.2.1 hat.2.2.1
            fun i d j e v hi hj hv => (hat.2.2.2 i d j e v hi hj hv).alloc hS hdead hold
        have h1 := hS.alloc hdead (w.alloc (.cells arr (tyi P T).elem)) rfl rfl rfl (by simp) hold _ hob
        refine ⟨_, _, upd t (some w.heap.size) ι, .inl hrun, ?_⟩
        have h2 := h1.put (dst := some t) (x := .ref t ety.size 0 m m) (v := .slice (some ⟨w.heap.size, 0 * ety.size, none⟩) m m) hd
          (.ref t ety.size 0 m m m w.heap.size (if_pos rfl) (Nat.le_refl _) (Nat.le_refl _) hmax (by simp only [bsz, heap_alloc_new w, hat.1, hll, Nat.zero_add]))
        rw [Nat.zero_mul] at h2
        exact h2
end hold
end Go.PS
