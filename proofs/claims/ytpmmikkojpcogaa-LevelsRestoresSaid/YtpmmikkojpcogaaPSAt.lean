/- Symbolic and real states: the relation, and what keeps it. -/
import Derived.Test.YtpmmikkojpcogaaPSRun
namespace Go.PS
open Go

theorem cell_lt {w : World} {b o : Nat} {v : Value} (h : w.cell? ⟨b, o, none⟩ = some v) : b < w.heap.size :=
  World.block_lt_of_cell? (w := w) (a := ⟨b, o, none⟩) h

theorem D.At.mono {w w' : World} {X X' : Nat → Prop} {x : D} {v : Value} (h : D.At w X x v)
    (hX : ∀ b, X' b → X b ∨ w.heap.size ≤ b) (hw : ∀ b, b < w.heap.size → ¬ X b → w'.heap[b]? = w.heap[b]?) : D.At w' X' x v := by
  induction h with
  | sc v h => exact .sc v h
  | ag cs arr hsz hone _ ih => exact .ag cs arr hsz hone ih
  | slnil base cap => exact .slnil base cap
  | sl l b off cap sz hl hc hsz vals hv _ ih =>
    refine .sl l b off cap sz hl hc hsz vals (fun i d j c hi hj => ?_) ih
    obtain ⟨h1, h2, h3⟩ := hv i d j c hi hj
    have hlt := cell_lt h1
    refine ⟨?_, h2, fun hx => ?_⟩
    · rw [World.cell?_of_block (w := w) (a := ⟨b, off + i * sz + j, none⟩) (hw b hlt h3)]; exact h1
    · rcases hX b hx with h | h
      · exact h3 h
      · omega
  | tup cs arr hsz _ ih => exact .tup cs arr hsz ih
  | pt cs b off vals hv _ ih =>
    refine .pt cs b off vals (fun j c hj => ?_) ih
    obtain ⟨h1, h2, h3⟩ := hv j c hj
    have hlt := cell_lt h1
    refine ⟨?_, h2, fun hx => ?_⟩
    · rw [World.cell?_of_block (w := w) (a := ⟨b, off + j, none⟩) (hw b hlt h3)]; exact h1
    · rcases hX b hx with h | h
      · exact h3 h
      · omega
  | fn f cs arr hsz _ ih => exact .fn f cs arr hsz ih

theorem D.At.sub {w : World} {X X' : Nat → Prop} {x : D} {v : Value} (h : D.At w X x v) (hX : ∀ b, X' b → X b) : D.At w X' x v :=
  h.mono (fun b hb => .inl (hX b hb)) (fun _ _ _ => rfl)

/-- Data's cells, at the value's cells. -/
theorem D.At.cells {w : World} {X : Nat → Prop} {x : D} {v : Value} (h : D.At w X x v) (ht : ∀ l, x ≠ .tup l) :
    v.cells.size = x.cells.length ∧ (∀ (j : Nat) (u : Value), v.cells[j]? = some u → u.oneCell' = true) ∧ ∀ (j : Nat) d u, x.cells[j]? = some d → v.cells[j]? = some u → D.At w X d u := by
  cases h with
  | ag cs arr hsz hone h => exact ⟨hsz, hone, h⟩
  | tup => exact absurd rfl (ht _)
  | sc v h =>
    refine ⟨?_, ?_, ?_⟩
    · cases v <;> first | rfl | simp [Value.oneCell'] at h
    all_goals
      have e : v.cells = #[v] := by cases v <;> first | rfl | simp [Value.oneCell'] at h
      rw [e]
    · intro j u hj
      rcases j with _ | j <;> simp at hj
      subst hj; exact h
    · intro j d u hd hj
      rcases j with _ | j <;> simp [D.cells] at hd hj
      subst hd; subst hj; exact .sc v h
  | slnil base cap =>
    refine ⟨rfl, ?_, ?_⟩ <;> intro j
    · intro u hj
      rcases j with _ | j <;> simp [Value.cells] at hj
      subst hj; rfl
    · intro d u hd hj
      rcases j with _ | j <;> simp [D.cells, Value.cells] at hd hj
      subst hd; subst hj; exact .slnil base cap
  | sl l b off cap sz hl hc hsz vals hv h =>
    refine ⟨rfl, ?_, ?_⟩ <;> intro j
    · intro u hj
      rcases j with _ | j <;> simp [Value.cells] at hj
      subst hj; rfl
    · intro d u hd hj
      rcases j with _ | j <;> simp [D.cells, Value.cells] at hd hj
      subst hd; subst hj; exact .sl l b off cap sz hl hc hsz vals hv h
  | pt cs b off vals hv h =>
    refine ⟨rfl, ?_, ?_⟩ <;> intro j
    · intro u hj
      rcases j with _ | j <;> simp [Value.cells] at hj
      subst hj; rfl
    · intro d u hd hj
      rcases j with _ | j <;> simp [D.cells, Value.cells] at hd hj
      subst hd; subst hj; exact .pt cs b off vals hv h
  | fn f cs arr hsz h =>
    refine ⟨rfl, ?_, ?_⟩ <;> intro j
    · intro u hj
      rcases j with _ | j <;> simp [Value.cells] at hj
      subst hj; rfl
    · intro d u hd hj
      rcases j with _ | j <;> simp [D.cells, Value.cells] at hd hj
      subst hd; subst hj; exact .fn f cs arr hsz h

theorem PV.At.move {w w' : World} {ι ι' : Nat → Option Nat} {X : Nat → Prop} {p : PV} {v : Value} (h : PV.At w ι X p v)
    (h1 : ∀ o b, ι o = some b → ι' o = some b ∧ bsz w' b = bsz w b)
    (h2 : ∀ b, ownX ι' X b → ownX ι X b ∨ w.heap.size ≤ b)
    (h3 : ∀ b, b < w.heap.size → ¬ ownX ι X b → w'.heap[b]? = w.heap[b]?) : PV.At w' ι' X p v := by
  induction h with
  | d x v h => exact .d x v (h.mono h2 h3)
  | ref o sz off len cap capr b hι hl hc hm hs => exact .ref o sz off len cap capr b (h1 o b hι).1 hl hc hm (hs.trans (h1 o b hι).2.symm)
  | ref0 o sz off base => exact .ref0 o sz off base
  | ptr o sz i c b hι => exact .ptr o sz i c b (h1 o b hι).1
  | nilS => exact .nilS
  | z0 base => exact .z0 base
  | ag cs arr hsz hone _ ih => exact .ag cs arr hsz hone ih
  | tup cs arr hsz _ ih => exact .tup cs arr hsz ih
  | fn f cs arr hsz _ ih => exact .fn f cs arr hsz ih
  | unk v => exact .unk v
  | und => exact .und
  | ab b => exact .ab b

theorem Ob.At.move {w w' : World} {ι ι' : Nat → Option Nat} {X : Nat → Prop} {o : Nat} {ob : Ob} (h : Ob.At w ι X o ob)
    (h0 : ι' o = ι o) (hb : ob ≠ .gone → ∀ b, ι o = some b → w'.heap[b]? = w.heap[b]?)
    (h1 : ∀ o b, ι o = some b → ι' o = some b ∧ bsz w' b = bsz w b)
    (h2 : ∀ b, ownX ι' X b → ownX ι X b ∨ w.heap.size ≤ b)
    (h3 : ∀ b, b < w.heap.size → ¬ ownX ι X b → w'.heap[b]? = w.heap[b]?) : Ob.At w' ι' X o ob := by
  cases h with
  | dead h => exact .dead (h0.trans h)
  | gone => exact .gone
  | cells cs b c T hι hbb hsz hone h =>
    exact .cells cs b c T (h0.trans hι) ((hb (by simp) b hι).trans hbb) hsz hone fun j p v hj hv => (h j p v hj hv).move h1 h2 h3
  | row0 sz h => exact .row0 sz (h0.trans h)
  | row sz l b c T hι hbb hsz hcl hone h =>
    exact Ob.At.row (o := o) (X := X) sz l b c T (h0.trans hι) ((hb (by simp) b hι).trans hbb) hsz hcl hone fun i d j e v hi hj hv => (h i d j e v hi hj hv).mono h2 h3

/-- The world at the entry, and the blocks of the objects that were handed over and stay where they are. -/
structure W0 extends World where
  ι0 : Nat → Option Nat

/-- The frame of a call: what it may not touch stays. -/
structure Frame0 (B : Nat → Prop) (w0 : W0) (w : World) : Prop where
  os : w.os = w0.os
  tape : w.tape = w0.tape
  output : w.output = w0.output
  size : w0.heap.size ≤ w.heap.size
  keep : ∀ b, B b → w.heap[b]? = w0.heap[b]?

/-- A symbolic state holds of a real one. B: blocks that may not be written; X: blocks that data may not touch. -/
structure Hold (B X : Nat → Prop) (w0 : W0) (n : Nat) (S : St) (a : Act) (w : World) (ι : Nat → Option Nat) : Prop where
  size : a.tmps.size = n
  defers : a.defers = []
  frame : Frame0 B w0 w
  hB : ∀ b, B b → b < w0.heap.size
  hXB : ∀ b, X b → B b
  inj : ∀ o o' b, S.objs o ≠ .gone → S.objs o' ≠ .gone → ι o = some b → ι o' = some b → o = o'
  free : ∀ o b, ι o = some b → ¬ B b ∧ b < w.heap.size
  env : ∀ t, PV.At w ι X (S.env t) (a.tmps.getD t undef)
  objs : ∀ o, Ob.At w ι X o (S.objs o)
  stay : ∀ o b, w0.ι0 o = some b → (1000 ≤ o ∧ o < 2000) ∧ ι o = some b ∧ bsz w b = bsz w0.toWorld b

theorem Hold.hX {B X : Nat → Prop} {w0 : W0} {n : Nat} {S : St} {a : Act} {w : World} {ι : Nat → Option Nat} (h : Hold B X w0 n S a w ι) (b : Nat) (hb : X b) : b < w0.heap.size := h.hB b (h.hXB b hb)

theorem Hold.put {B X : Nat → Prop} {w0 : W0} {n : Nat} {S : St} {a : Act} {w : World} {ι : Nat → Option Nat} (h : Hold B X w0 n S a w ι) {dst : Option Nat} {x : PV} {v : Value}
    (hd : ∀ t, dst = some t → t < n) (hv : PV.At w ι X x v) : Hold B X w0 n (S.put dst x) (a.put dst v) w ι := by
  cases dst with
  | none => exact h
  | some t =>
    refine ⟨?_, h.defers, h.frame, h.hB, h.hXB, h.inj, h.free, fun u => ?_, h.objs, h.stay⟩
    · simpa [Act.put] using h.size
    · have ht := hd t rfl
      have hs := h.size
      by_cases hu : u = t
      · subst hu
        simp only [St.put, upd, if_true, Act.put, Array.getD_eq_getD_getElem?]
        rw [Array.getElem?_setIfInBounds_self_of_lt (by omega)]
        exact hv
      · have := h.env u
        simp only [St.put, upd, if_neg hu, Act.put, Array.getD_eq_getD_getElem?] at this ⊢
        rw [Array.getElem?_setIfInBounds_ne (by omega)]
        exact this
end Go.PS
