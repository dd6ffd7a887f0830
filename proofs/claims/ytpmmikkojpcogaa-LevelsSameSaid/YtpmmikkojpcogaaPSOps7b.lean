/- Made slices and functions. -/
import Derived.Test.YtpmmikkojpcogaaPSOps7
import Derived.Laws.MakeOwn
namespace Go.PS
open Go

section hold
variable {P : Program} {B X : Nat → Prop} {w0 : W0} {w : World} {n : Nat} {S : St} {a : Act} {ι : Nat → Option Nat} {dst : Option Nat} {ty : TypeId} {pos : String} {af : Array Edge} {gd : Option (Nat × Bool)}

theorem sim_makeFunc (hS : Hold B X w0 n S a w ι) {fn : Fn} {fi ca : Array Operand} (hd : ∀ t, dst = some t → t < n) (hx : ∀ x ∈ ca.toList, constOk x = true)
    (hc : (semMakeFunc fn (fi.toList.map S.ev) (ca.toList.map S.ev)).1) : Goes P B X w0 n ⟨dst, .makeFunc fn fi ca, ty, pos, af, gd⟩ (S.app dst (semMakeFunc fn (fi.toList.map S.ev) (ca.toList.map S.ev)).2) a w := by
  unfold semMakeFunc at hc ⊢
  split at hc
  · rename_i f hfi
    have hf0 : fi = #[] := by
      have : fi.toList = [] := by simpa using hfi
      exact Array.toList_eq_nil_iff.1 this
    subst hf0
    simp only
    rw [app_v]
    refine hS.goes (v := .func (.func f) #[] (ca.map a.eval)) hd (by simp [execOp, Instr.makeFunc]) (.fn f _ _ (by simp) (fun j p v hj hv => ?_))
    rw [List.getElem?_map] at hj
    rw [Array.getElem?_map] at hv
    simp only [Array.getElem?_toList] at hj
    cases hq : ca[j]? with
    | none => rw [hq] at hj; cases hj
    | some x =>
      rw [hq] at hj hv; cases hj; cases hv
      exact hS.ev (hx x (by simpa using Array.mem_of_getElem? hq))
  · exact hc.elim

theorem sim_makeSlice (hS : Hold B X w0 n S a w ι) {T : TypeId} {l c : Operand} (hd : ∀ t, dst = some t → t < n) (hl : constOk l = true) (hcc : constOk c = true)
    (hc : (semMakeSlice (tyi P T) (tyi P (tyi P T).elem) S.objs dst (S.ev l) (S.ev c)).1) :
    Goes P B X w0 n ⟨dst, .makeSlice T l c, ty, pos, af, gd⟩ (S.app dst (semMakeSlice (tyi P T) (tyi P (tyi P T).elem) S.objs dst (S.ev l) (S.ev c)).2) a w := by
  have h1 := hS.ev hl
  have h2 := hS.ev hcc
  unfold semMakeSlice at hc ⊢
  split at hc
  · rename_i t m m' e1 e2
    obtain ⟨hk, hz, rfl, h0, hb, hm, hdead⟩ := hc
    rw [e1] at h1
    rw [e2] at h2
    have v1 := d_int h1
    have v2 := d_int h2
    have hu := kind1 hk
    obtain ⟨ie, z, hie, hiz, hzs, hisz, hiby, hz1, hne, hzz, _⟩ := zok_of hz
    have hagg := zok_agg hz
    generalize he : (tyi P (tyi P T).elem) = ety at *
    obtain ⟨k, rfl⟩ : ∃ k : Nat, m = k := ⟨m.toNat, by omega⟩
    simp only [Int.toNat_natCast]
    have hr := run_make (P := P) w T (tyi P T).elem ie z hu hie hiz .i64 .i64 (k : Int) (k : Int) h0 (Int.le_refl _) (by rw [hiby]; exact hb) hm
    simp only [Int.toNat_natCast] at hr
    have h0' : RowAt w (ownX ι X) ety.size (List.replicate k (.ofCells ety.agg (ety.zero.map cellD))) (madeCells z.cells (k * ety.size)) := by
      rw [hzz]; exact zeros_at hzs hz1 hne hagg
    rw [hisz] at hr
    have hz0 : nilZero ety.zero = true → z.cells.toList = [.slice none 0 0] := by
      intro h
      rw [← hzz]
      unfold nilZero at h
      split at h
      · assumption
      · cases h
    have hsz1 : nilZero ety.zero = true → ety.size = 1 := by
      intro h
      have := congrArg List.length (hz0 h)
      simp at this; omega
    have hnil : nilZero ety.zero = true → ∀ (j : Nat) v, (madeCells z.cells (k * ety.size))[j]? = some v → v = .slice none 0 0 := by
      intro h j v hj
      have hzc : z.cells = #[.slice none 0 0] := by rw [← Array.toList_inj]; exact hz0 h
      have hm : v ∈ madeCells z.cells (k * ety.size) := Array.mem_of_getElem? hj
      have hme : madeCells z.cells (k * ety.size) = (Array.range (k * ety.size)).map (fun k => z.cells[k % z.cells.size]!) := rfl
      rw [hme, hzc] at hm
      obtain ⟨q, _, rfl⟩ := Array.mem_map.1 hm
      have : q % (#[Value.slice none 0 0] : Array Value).size = 0 := by simp [Nat.mod_one]
      rw [this]; rfl
    generalize hmc : madeCells z.cells (k * ety.size) = arr at *
    have hold : ∀ b, b < w.heap.size → (w.alloc (.cells arr (tyi P T).elem)).heap[b]? = w.heap[b]? := fun b hb => heap_alloc_old w _ hb
    have hob : Ob.At (w.alloc (.cells arr (tyi P T).elem)) (upd t (some w.heap.size) ι) X t (if nilZero ety.zero = true then .cells (List.replicate k .nilS) else .row ety.size (List.replicate k (.ofCells ety.agg (ety.zero.map cellD)))) := by
      split
      · rename_i hnz
        refine .cells _ w.heap.size arr (tyi P T).elem (if_pos rfl) (heap_alloc_new w _) (by rw [h0'.1, List.length_replicate, List.length_replicate, hsz1 hnz, Nat.mul_one]) h0'.2.2.1 fun j p v hj hv => ?_
        rw [hnil hnz j v hv, List.eq_of_mem_replicate (List.mem_of_getElem? hj)]
        exact .nilS
      · exact .row ety.size _ w.heap.size arr (tyi P T).elem (if_pos rfl) (heap_alloc_new w _) (by rw [h0'.1]; exact Nat.le_refl _) h0'.2.1 h0'.2.2.1 (fun i d j e v hi hj hv => (h0'.2.2.2 i d j e v hi hj hv).alloc hS hdead hold)
    have h3 := hS.alloc hdead (w.alloc (.cells arr (tyi P T).elem)) rfl rfl rfl (by simp) hold _ hob
    have hrun : (execOp a.eval ⟨some t, .makeSlice T l c, ty, pos, af, gd⟩).run P w = .ok (.value (.slice (some ⟨w.heap.size, 0, none⟩) k k)) (w.alloc (.cells arr (tyi P T).elem)) := by
      simp only [execOp, v1, v2, Sem.run_bind, hr, Result.andThen_ok, Sem.run_pure]
    refine ⟨_, _, upd t (some w.heap.size) ι, .inl hrun, ?_⟩
    have h4 := h3.put (dst := some t) (x := .ref t ety.size 0 k k) (v := .slice (some ⟨w.heap.size, 0 * ety.size, none⟩) k k) hd
      (.ref t ety.size 0 k k k w.heap.size (if_pos rfl) (Nat.le_refl _) (Nat.le_refl _) (by simp only [maxLen]; omega) (by simp only [bsz, heap_alloc_new w, h0'.1, List.length_replicate, Nat.zero_add]))
    rw [Nat.zero_mul] at h4
    exact h4
  · exact hc.elim
end hold
end Go.PS
