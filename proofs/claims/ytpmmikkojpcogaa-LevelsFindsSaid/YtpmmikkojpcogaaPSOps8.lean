/- Built-in functions. -/
import Derived.Test.YtpmmikkojpcogaaPSOps7b
namespace Go.PS
open Go

section hold
variable {P : Program} {B X : Nat → Prop} {w0 : W0} {w : World} {n : Nat} {S : St} {a : Act} {ι : Nat → Option Nat} {dst : Option Nat} {ty : TypeId} {pos : String} {af : Array Edge} {gd : Option (Nat × Bool)}

theorem len_at {p : PV} {v : Value} {m : Nat} (h : PV.At w ι X p v) (hl : lenPV p = some m) : ∃ b c, v = .slice b m c := by
  cases h with
  | d x v h =>
    cases h with
    | slnil base cap => cases hl; exact ⟨_, _, rfl⟩
    | sl => cases hl; exact ⟨_, _, rfl⟩
    | _ => cases hl
  | ref => cases hl; exact ⟨_, _, rfl⟩
  | ref0 => cases hl; exact ⟨_, _, rfl⟩
  | nilS => cases hl; exact ⟨_, _, rfl⟩
  | z0 => cases hl; exact ⟨_, _, rfl⟩
  | _ => cases hl

/-- The elements of a slice, as they are read. -/
def ReadsAs (P : Program) (w : World) (Y : Nat → Prop) (sz : Nat) (xs : List D) (v : Value) : Prop :=
  ∃ (base : Option Addr) (cap : Nat) (news : List Value), v = .slice base xs.length cap ∧ news.length = xs.length * sz ∧ (Builtin.firstCells sz xs.length v).run P w = .ok news.toArray w ∧ (∀ u ∈ news, u.oneCell' = true) ∧
    ∀ (i : Nat) d (j : Nat) e u, xs[i]? = some d → d.cells[j]? = some e → news[i * sz + j]? = some u → D.At w Y e u

theorem reads_nil {Y : Nat → Prop} {sz : Nat} (base : Option Addr) (cap : Nat) : ReadsAs P w Y sz [] (.slice base 0 cap) := by
  refine ⟨base, cap, [], rfl, by simp, ?_, by simp, by simp⟩
  cases base <;> simp [Builtin.firstCells, loadCells, loadCellsFrom]

theorem reads_block {Y : Nat → Prop} {sz : Nat} {xs : List D} {b off cap : Nat} (_hcl : ∀ d, d ∈ xs → d.cells.length = sz) (vals : Nat → Value)
    (hv : ∀ k, k < xs.length * sz → w.cell? ⟨b, off + k, none⟩ = some (vals k) ∧ (vals k).oneCell' = true)
    (hat : ∀ (i : Nat) d (j : Nat) e, xs[i]? = some d → d.cells[j]? = some e → D.At w Y e (vals (i * sz + j))) : ReadsAs P w Y sz xs (.slice (some ⟨b, off, none⟩) xs.length cap) := by
  refine ⟨_, _, (List.range (xs.length * sz)).map vals, rfl, by simp, ?_, ?_, ?_⟩
  · refine run_firstCells_some (P := P) w sz xs.length ⟨b, off, none⟩ _ _ _ (by simp) (fun j v hj => ?_)
    rw [List.getElem?_map] at hj
    rcases Nat.lt_or_ge j (xs.length * sz) with hlt | hge
    · rw [List.getElem?_range hlt] at hj; cases hj; rw [add_at]; exact (hv j hlt).1
    · rw [List.getElem?_eq_none (by simpa using hge)] at hj; cases hj
  · intro u hu
    simp only [List.mem_map, List.mem_range] at hu
    obtain ⟨k, hk, rfl⟩ := hu
    exact (hv k hk).2
  · intro i d j e u hi hj hu
    rw [List.getElem?_map] at hu
    rcases Nat.lt_or_ge (i * sz + j) (xs.length * sz) with hlt | hge
    · rw [List.getElem?_range hlt] at hu; cases hu; exact hat i d j e hi hj
    · rw [List.getElem?_eq_none (by simpa using hge)] at hu; cases hu

theorem divmod_sz {l : Nat} {k sz : Nat} (h : k < l * sz) : k / sz < l ∧ k % sz < sz ∧ k / sz * sz + k % sz = k := by
  have h0 : 0 < sz := by rcases Nat.eq_zero_or_pos sz with rfl | h0; · simp at h
                         · exact h0
  exact ⟨Nat.div_lt_of_lt_mul (by rw [Nat.mul_comm]; exact h), Nat.mod_lt _ h0, by rw [Nat.mul_comm]; exact Nat.div_add_mod k sz⟩

theorem reads_d {Y : Nat → Prop} {sz : Nat} {xs : List D} {v : Value} (h : D.At w Y (.sl xs) v) (hcl : ∀ d, d ∈ xs → d.cells.length = sz) : ReadsAs P w Y sz xs v := by
  cases h with
  | slnil base cap => exact reads_nil base cap
  | sl l b off cap sz' hl hc hsz vals hv h =>
    cases xs with
    | nil => exact reads_nil _ _
    | cons x r =>
      have hs : sz' = sz := by rw [← hcl x (by simp)]; exact (hsz x (by simp)).symm
      subst hs
      have cellof : ∀ k, k < (x :: r).length * sz' → ∃ d c, (x :: r)[k / sz']? = some d ∧ d.cells[k % sz']? = some c := by
        intro k hk
        obtain ⟨h1, h2, h3⟩ := divmod_sz hk
        have hd : (x :: r)[k / sz']? = some ((x :: r)[k / sz']) := List.getElem?_eq_getElem h1
        exact ⟨_, _, hd, List.getElem?_eq_getElem (by rw [hsz _ (List.getElem_mem h1)]; exact h2)⟩
      refine reads_block hcl (fun k => vals (k / sz') (k % sz')) (fun k hk => ?_) (fun i d j e hi hj => ?_)
      · obtain ⟨d, c, hd, hcc⟩ := cellof k hk
        obtain ⟨h1, h2, h3⟩ := divmod_sz hk
        have := hv _ d _ c hd hcc
        rw [Nat.add_assoc, h3] at this
        exact ⟨this.1, this.2.1⟩
      · have hj2 : j < sz' := by rw [← hsz d (List.mem_of_getElem? hi)]; exact (List.getElem?_eq_some_iff.1 hj).1
        have h0 : 0 < sz' := by omega
        have e1 : (i * sz' + j) / sz' = i := by rw [Nat.mul_comm, Nat.mul_add_div h0, Nat.div_eq_of_lt hj2]; rfl
        have e2 : (i * sz' + j) % sz' = j := by rw [Nat.mul_comm, Nat.mul_add_mod]; exact Nat.mod_eq_of_lt hj2
        simp only [e1, e2]
        exact h i d j e hi hj

/-- What the state sees as a slice reads so. -/
theorem reads_pv (hS : Hold B X w0 n S a w ι) {p : PV} {v : Value} {xs : List D} {sz : Nat} (hp : PV.At w ι X p v) (hx : srcD S.objs p = some xs) (hcl : ∀ d, d ∈ xs → d.cells.length = sz) :
    ReadsAs P w (ownX ι X) sz xs v := by
  cases p with
  | d x => cases x <;> simp [srcD] at hx; subst hx; cases hp; exact reads_d (by assumption) hcl
  | nilS => simp [srcD] at hx; subst hx; cases hp; exact reads_nil _ _
  | z0 => simp [srcD] at hx; subst hx; cases hp; exact reads_nil _ _
  | unk => simp [srcD] at hx
  | und => simp [srcD] at hx
  | ab => simp [srcD] at hx
  | ref o sz' off len cap =>
    simp only [srcD] at hx
    cases hob : S.objs o with
    | dead => rw [hob] at hx; cases hx
    | gone => rw [hob] at hx; cases hx
    | cells cs => rw [hob] at hx; cases hx
    | row sz'' l =>
      rw [hob] at hx
      simp only at hx
      split at hx
      · rename_i hcond
        obtain ⟨rfl, hle⟩ := hcond
        simp only [Option.some.injEq] at hx
        subst hx
        have hlen : ((l.drop off).take len).length = len := by simp; omega
        cases hp with
        | ref0 => simp only [List.take_zero]; exact reads_nil _ _
        | ref _ _ _ _ _ capr b hι hl hc hm hs =>
          by_cases hz : len = 0
          · subst hz; simp only [List.take_zero]; exact reads_nil _ _
          have hoo := hS.objs o
          rw [hob] at hoo
          cases hoo with
          | row0 _ h => rw [h] at hι; cases hι
          | row _ _ b' c T hι' hb hsz hcl' hone h =>
            rw [hι] at hι'; cases hι'
            have hmem : ∃ d, d ∈ (l.drop off).take len := by
              have : 0 < ((l.drop off).take len).length := by omega
              exact ⟨_, List.getElem_mem this⟩
            obtain ⟨d0, hd0⟩ := hmem
            have hs : sz' = sz := by
              rw [← hcl d0 hd0, hcl' d0 (List.mem_of_mem_drop (List.mem_of_mem_take hd0))]
            subst hs
            have hroom : (off + len) * sz' ≤ c.size := Nat.le_trans (Nat.mul_le_mul_right _ hle) hsz
            have hr := reads_block (P := P) (w := w) (Y := ownX ι X) (b := b) (off := off * sz') (cap := capr) hcl (fun k => c.getD (off * sz' + k) undef) (fun k hk => by
              rw [hlen] at hk
              have hlt : off * sz' + k < c.size := by rw [Nat.add_mul] at hroom; omega
              have hg : c[off * sz' + k]? = some c[off * sz' + k] := Array.getElem?_eq_getElem hlt
              have hgd : c.getD (off * sz' + k) undef = c[off * sz' + k] := by simp [Array.getD, hlt]
              simp only [hgd]
              exact ⟨by rw [cell_arr hb, hg], hone _ _ hg⟩) (fun i d j e hi hj => by
              rw [List.getElem?_take] at hi
              split at hi
              · rename_i hil
                rw [List.getElem?_drop] at hi
                have hjs : j < sz' := by rw [← hcl' d (List.mem_of_getElem? hi)]; exact (List.getElem?_eq_some_iff.1 hj).1
                have hlt : (off + i) * sz' + j < c.size := by
                  have : (off + i + 1) * sz' ≤ (off + len) * sz' := Nat.mul_le_mul_right _ (by omega)
                  rw [Nat.add_mul] at this; omega
                have hg : c[(off + i) * sz' + j]? = some c[(off + i) * sz' + j] := Array.getElem?_eq_getElem hlt
                have heq : off * sz' + (i * sz' + j) = (off + i) * sz' + j := by rw [Nat.add_mul]; omega
                simp only [heq]
                have hgd : c.getD ((off + i) * sz' + j) undef = c[(off + i) * sz' + j] := by simp [Array.getD, hlt]
                rw [hgd]
                exact h (off + i) d j e _ hi hj hg
              · cases hi)
            rw [hlen] at hr
            exact hr
      · cases hx
  | ptr o sz' i c => simp [srcD] at hx
  | ag cs => simp [srcD] at hx
  | tup cs => simp [srcD] at hx
  | fn f cs => simp [srcD] at hx
end hold
end Go.PS
