/- Each operation, in the model, does what the symbolic state says: reads and plain values. -/
import Derived.Test.YtpmmikkojpcogaaPSOps
namespace Go.PS
open Go

section hold
variable {P : Program} {B X : Nat → Prop} {w0 : W0} {w : World} {n : Nat} {S : St} {a : Act} {ι : Nat → Option Nat}

theorem D.At.single {x : D} {v : Value} {Y : Nat → Prop} (h : D.At w Y x v) (h1 : v.oneCell' = true) : x.cells = [x] := by
  cases h <;> first | rfl | (simp [Value.oneCell'] at h1)

theorem cell_arr {b o : Nat} {c : Array Value} {T : TypeId} {fr : Nat × Nat} (hb : w.heap[b]? = some (.cells c T fr)) : w.cell? ⟨b, o, none⟩ = c[o]? := by
  simp [World.cell?, hb]

theorem load_pt {T : TypeId} {cs : List D} {va : Value} (hp : D.At w (ownX ι X) (.pt cs) va) (hok : (tyi P T).ok = true) (hc : (ldD (tyi P T) cs).1) :
    ∃ v, (Instr.loadAt T va).run P w = .ok v w ∧ D.At w (ownX ι X) (ldD (tyi P T) cs).2 v := by
  cases hp with
  | pt cs b off vals hv h =>
    have hsz : ((tyi P T).agg = true → P.cellsOf T ≤ cs.length) ∧ ((tyi P T).agg = false → ∃ x r, cs = x :: r) := by
      unfold ldD at hc
      cases ha : (tyi P T).agg with
      | true => simp only [ha, if_true] at hc; exact ⟨fun _ => hc, (fun h => by cases h)⟩
      | false =>
        simp only [ha, Bool.false_eq_true, if_false] at hc
        refine ⟨(fun h => by cases h), fun _ => ?_⟩
        cases cs with
        | nil => simp at hc
        | cons x r => exact ⟨x, r, rfl⟩
    have hrun := run_loadVar_at (P := P) (w := w) (t := T) (b := b) (off := off) hok vals (fun j hj => by
      have : j < cs.length := by
        cases ha : (tyi P T).agg with
        | true => rw [ha] at hj; simp at hj; have := hsz.1 ha; omega
        | false => rw [ha] at hj; simp at hj; obtain ⟨x, r, rfl⟩ := hsz.2 ha; simp; omega
      exact (hv j _ (List.getElem?_eq_getElem this)).1)
    refine ⟨_, by simp only [Instr.loadAt, Instr.sureAddr, Sem.run_bind, Sem.run_pure, Result.andThen_ok]; exact hrun, ?_⟩
    unfold ldD
    cases ha : (tyi P T).agg with
    | true =>
      have hs := hsz.1 ha
      simp only [if_true]
      have hg : ∀ (j : Nat) (v : Value), ((List.range (P.cellsOf T)).map vals).toArray[j]? = some v → j < P.cellsOf T ∧ v = vals j := by
        intro j v hj
        rw [List.getElem?_toArray, List.getElem?_map] at hj
        rcases Nat.lt_or_ge j (P.cellsOf T) with hlt | hge
        · rw [List.getElem?_range hlt] at hj; cases hj; exact ⟨hlt, rfl⟩
        · rw [List.getElem?_eq_none (by simpa using hge)] at hj; cases hj
      refine .ag _ _ (by simp [tyi]; omega) (fun j v hj => ?_) (fun j d v hd hj => ?_)
      · obtain ⟨hlt, rfl⟩ := hg j v hj
        exact (hv j _ (List.getElem?_eq_getElem (by omega))).2.1
      · obtain ⟨hlt, rfl⟩ := hg j v hj
        rw [List.getElem?_take] at hd
        split at hd
        · exact h j d hd
        · cases hd
    | false =>
      obtain ⟨x, r, rfl⟩ := hsz.2 ha
      simp only [Bool.false_eq_true, if_false]
      exact h 0 x rfl

theorem load_ptr (hS : Hold B X w0 n S a w ι) {T : TypeId} {o sz i c : Nat} {va : Value} (hp : PV.At w ι X (.ptr o sz i c) va) (hok : (tyi P T).ok = true)
    (hc : (ldOb (tyi P T) (S.objs o) sz i c).1) : ∃ v, (Instr.loadAt T va).run P w = .ok v w ∧ PV.At w ι X (ldOb (tyi P T) (S.objs o) sz i c).2 v := by
  cases hp with
  | ptr o sz i c b hι =>
    have hob := hS.objs o
    generalize S.objs o = ob at hob hc
    cases hob with
    | dead h => rw [h] at hι; cases hι
    | gone => exact hc.elim
    | row0 sz' h => rw [h] at hι; cases hι
    | cells cs b' arr T' hι' hb hsz hone h =>
      rw [hι] at hι'; cases hι'
      simp only [ldOb] at hc ⊢
      generalize hq : i * sz + c = q at hc ⊢
      have hcl : ((tyi P T).agg = true → q + P.cellsOf T ≤ cs.length ∨ P.cellsOf T = 0) ∧ ((tyi P T).agg = false → ∃ x r, cs.drop q = x :: r) := by
        unfold ldP at hc
        cases ha : (tyi P T).agg with
        | true => simp only [ha, if_true, List.length_drop] at hc; exact ⟨fun _ => by simp [tyi] at hc; omega, (fun h => by cases h)⟩
        | false =>
          simp only [ha, Bool.false_eq_true, if_false] at hc
          refine ⟨(fun h => by cases h), fun _ => ?_⟩
          cases hd : cs.drop q with
          | nil => rw [hd] at hc; simp at hc
          | cons x r => exact ⟨x, r, rfl⟩
      have hrun := run_loadVar_at (P := P) (w := w) (t := T) (b := b) (off := q) hok (fun j => arr.getD (q + j) undef) (fun j hj => by
        have : q + j < arr.size := by
          cases ha : (tyi P T).agg with
          | true => rw [ha] at hj; simp at hj; have := hcl.1 ha; omega
          | false =>
            rw [ha] at hj; simp at hj; obtain ⟨x, r, hd⟩ := hcl.2 ha
            have := congrArg List.length hd; simp at this; omega
        rw [cell_arr hb]
        simp [Array.getD, this])
      refine ⟨_, by simp only [Instr.loadAt, Instr.sureAddr, Sem.run_bind, Sem.run_pure, Result.andThen_ok]; exact hrun, ?_⟩
      unfold ldP
      cases ha : (tyi P T).agg with
      | true =>
        have hs := hcl.1 ha
        simp only [if_true]
        have hg : ∀ (j : Nat) (v : Value), ((List.range (P.cellsOf T)).map fun j => arr.getD (q + j) undef).toArray[j]? = some v → j < P.cellsOf T ∧ arr[q + j]? = some v := by
          intro j v hj
          rw [List.getElem?_toArray, List.getElem?_map] at hj
          rcases Nat.lt_or_ge j (P.cellsOf T) with hlt | hge
          · rw [List.getElem?_range hlt] at hj; cases hj
            have hlt2 : q + j < arr.size := by omega
            exact ⟨hlt, by simp [Array.getD, hlt2]⟩
          · rw [List.getElem?_eq_none (by simpa using hge)] at hj; cases hj
        refine .ag _ _ (by simp [tyi]; omega) (fun j v hj => ?_) (fun j d v hd hj => ?_)
        · exact hone _ v (hg j v hj).2
        · obtain ⟨hlt, hv⟩ := hg j v hj
          rw [List.getElem?_take] at hd
          split at hd
          · rw [List.getElem?_drop] at hd; exact h (q + j) d v hd hv
          · cases hd
      | false =>
        obtain ⟨x, r, hd⟩ := hcl.2 ha
        simp only [Bool.false_eq_true, if_false, hd]
        have h0 : cs[q]? = some x := by have := congrArg (·[0]?) hd; simpa using this
        have hlt : q < arr.size := by have := (List.getElem?_eq_some_iff.1 h0).1; omega
        exact h q x _ h0 (by simp [Array.getD, hlt])
    | row sz' l b' arr T' hι' hb hsz hcl hone h =>
      rw [hι] at hι'; cases hι'
      simp only [ldOb] at hc ⊢
      obtain ⟨rfl, hi, hc⟩ := hc
      have hli : l[i]? = some l[i] := List.getElem?_eq_getElem hi
      simp only [hli, Option.getD_some] at hc ⊢
      have hcs : l[i].cells.length = sz := hcl _ (List.getElem_mem hi)
      have hroom : i * sz + sz ≤ arr.size := by
        have : (i + 1) * sz ≤ l.length * sz := Nat.mul_le_mul_right _ hi
        rw [Nat.add_mul] at this; omega
      have hld : D.At w (ownX ι X) (.pt (l[i].cells.drop c)) (.pointer (some ⟨b, i * sz + c, none⟩)) ∨ True := .inr trivial
      have hcl2 : ((tyi P T).agg = true → c + P.cellsOf T ≤ sz ∨ P.cellsOf T = 0) ∧ ((tyi P T).agg = false → ∃ x r, l[i].cells.drop c = x :: r) := by
        unfold ldD at hc
        cases ha : (tyi P T).agg with
        | true => simp only [ha, if_true, List.length_drop] at hc; exact ⟨fun _ => by simp [tyi] at hc; omega, (fun h => by cases h)⟩
        | false =>
          simp only [ha, Bool.false_eq_true, if_false] at hc
          refine ⟨(fun h => by cases h), fun _ => ?_⟩
          cases hd : l[i].cells.drop c with
          | nil => rw [hd] at hc; simp at hc
          | cons x r => exact ⟨x, r, rfl⟩
      have hrun := run_loadVar_at (P := P) (w := w) (t := T) (b := b) (off := i * sz + c) hok (fun j => arr.getD (i * sz + c + j) undef) (fun j hj => by
        have : i * sz + c + j < arr.size := by
          cases ha : (tyi P T).agg with
          | true => rw [ha] at hj; simp at hj; have := hcl2.1 ha; omega
          | false =>
            rw [ha] at hj; simp at hj; obtain ⟨x, r, hd⟩ := hcl2.2 ha
            have := congrArg List.length hd; simp at this; omega
        rw [cell_arr hb]
        simp [Array.getD, this])
      refine ⟨_, by simp only [Instr.loadAt, Instr.sureAddr, Sem.run_bind, Sem.run_pure, Result.andThen_ok]; exact hrun, .d _ _ ?_⟩
      unfold ldD
      cases ha : (tyi P T).agg with
      | true =>
        have hs := hcl2.1 ha
        simp only [if_true]
        have hg : ∀ (j : Nat) (v : Value), ((List.range (P.cellsOf T)).map fun j => arr.getD (i * sz + c + j) undef).toArray[j]? = some v → j < P.cellsOf T ∧ arr[i * sz + c + j]? = some v := by
          intro j v hj
          rw [List.getElem?_toArray, List.getElem?_map] at hj
          rcases Nat.lt_or_ge j (P.cellsOf T) with hlt | hge
          · rw [List.getElem?_range hlt] at hj; cases hj
            have hlt2 : i * sz + c + j < arr.size := by omega
            exact ⟨hlt, by simp [Array.getD, hlt2]⟩
          · rw [List.getElem?_eq_none (by simpa using hge)] at hj; cases hj
        refine .ag _ _ (by simp [tyi]; omega) (fun j v hj => ?_) (fun j d v hd hj => ?_)
        · exact hone _ v (hg j v hj).2
        · obtain ⟨hlt, hv⟩ := hg j v hj
          rw [List.getElem?_take] at hd
          split at hd
          · rw [List.getElem?_drop] at hd
            rw [Nat.add_assoc] at hv
            exact h i _ (c + j) d v hli hd hv
          · cases hd
      | false =>
        obtain ⟨x, r, hd⟩ := hcl2.2 ha
        simp only [Bool.false_eq_true, if_false, hd]
        have h0 : l[i].cells[c]? = some x := by have := congrArg (·[0]?) hd; simpa using this
        have hlt : i * sz + c < arr.size := by have := (List.getElem?_eq_some_iff.1 h0).1; omega
        exact h i _ c x _ hli h0 (by simp [Array.getD, hlt])

theorem sim_load (hS : Hold B X w0 n S a w ι) {dst : Option Nat} {T : TypeId} {x : Operand} {ty : TypeId} {pos : String} {af : Array Edge} {gd : Option (Nat × Bool)} (hd : ∀ t, dst = some t → t < n) (hx : constOk x = true)
    (hc : (semLoad (tyi P T) S.objs (S.ev x)).1) : Goes P B X w0 n ⟨dst, .load T x, ty, pos, af, gd⟩ (S.app dst (semLoad (tyi P T) S.objs (S.ev x)).2) a w := by
  have hp := hS.ev hx
  generalize S.ev x = p at hc hp
  unfold semLoad at hc ⊢
  split at hc
  · obtain ⟨hok, hc⟩ := hc
    simp only
    rw [app_v]
    cases hp with
    | d _ _ hp =>
      obtain ⟨v, hr, hv⟩ := load_pt hp hok hc
      exact hS.goes hd (by simp only [execOp, Sem.run_bind, hr, Result.andThen_ok, Sem.run_pure]) (.d _ _ hv)
  · obtain ⟨hok, hc⟩ := hc
    simp only
    rw [app_rd]
    obtain ⟨v, hr, hv⟩ := load_ptr hS hp hok hc
    exact hS.goes hd (by simp only [execOp, Sem.run_bind, hr, Result.andThen_ok, Sem.run_pure]) hv
  · exact hc.elim
end hold
end Go.PS
