/- Each operation, in the model, does what the symbolic state says. -/
import Derived.Test.YtpmmikkojpcogaaPSAt
namespace Go.PS
open Go

theorem add_at (b off j : Nat) : (⟨b, off, none⟩ : Addr).add j = ⟨b, off + j, none⟩ := by unfold Addr.add; split <;> simp_all

section types
variable {P : Program} {t : TypeId}
theorem info_some (h : (tyi P t).ok = true) : ∃ i, P.info? t = some i := by
  simp only [tyi, Program.underlying] at h
  cases hi : P.info? t with
  | none => rw [hi] at h; simp at h
  | some i => exact ⟨i, rfl⟩
theorem und_some (h : (tyi P t).ok = true) : ∃ d, P.underlying t = some d := Option.isSome_iff_exists.1 h
theorem run_sizeOf' (h : (tyi P t).ok = true) (w : World) : (sizeOf t).run P w = .ok (P.cellsOf t) w := by
  obtain ⟨i, hi⟩ := info_some h
  simp [sizeOf, typeInfo, hi, Program.cellsOf]
theorem run_isAgg' (h : (tyi P t).ok = true) (w : World) : (isAgg t).run P w = .ok (tyi P t).agg w := by
  obtain ⟨d, hd⟩ := und_some h
  simp only [isAgg, Sem.run_bind, run_underlying hd, Result.andThen_ok, tyi, hd]
  cases d <;> rfl
theorem zok_zero (h : (tyi P t).zok = true) : ∃ i z, P.info? t = some i ∧ i.zero = some z ∧ z.cells.size = P.cellsOf t ∧ (∀ v ∈ z.cells.toList, v.oneCell' = true) ∧ P.cellsOf t ≠ 0 ∧ (tyi P t).zero = z.cells.toList := by
  simp only [tyi] at h ⊢
  cases hi : P.info? t with
  | none => rw [hi] at h; simp at h
  | some i =>
    rw [hi] at h
    simp only at h ⊢
    cases hz : i.zero with
    | none => rw [hz] at h; simp at h
    | some z =>
      rw [hz] at h
      rw [Bool.and_eq_true] at h
      have h := h.1
      simp only [Bool.and_eq_true, beq_iff_eq, bne_iff_ne, ne_eq] at h
      refine ⟨i, z, rfl, hz, h.1.1, fun v hv => ?_, h.2, rfl⟩
      exact (Array.all_eq_true_iff_forall_mem.1 h.1.2) v (by simpa using hv)
theorem zok_agg (h : (tyi P t).zok = true) : (tyi P t).agg = false → (tyi P t).size = 1 := by
  simp only [tyi] at h ⊢
  cases hi : P.info? t with
  | none => rw [hi] at h; simp at h
  | some i =>
    rw [hi] at h
    simp only at h ⊢
    cases hz : i.zero with
    | none => rw [hz] at h; simp at h
    | some z =>
      rw [hz] at h
      rw [Bool.and_eq_true, Bool.or_eq_true, beq_iff_eq] at h
      intro ha
      rcases h.2 with h2 | h2
      · exact h2
      · rw [ha] at h2; cases h2
theorem kind3 (h : (tyi P t).kind = 3) : ∃ fs, P.underlying t = some (.struct fs) := by
  simp only [tyi] at h
  cases hu : P.underlying t with
  | none => rw [hu] at h; simp at h
  | some d => rw [hu] at h; cases d <;> simp at h; exact ⟨_, rfl⟩
theorem kind1 (h : (tyi P t).kind = 1) : P.underlying t = some (.slice (tyi P t).elem) := by
  simp only [tyi] at h ⊢
  cases hu : P.underlying t with
  | none => rw [hu] at h; simp at h
  | some d => rw [hu] at h; cases d <;> simp at h; rfl
theorem kind6 (h : (tyi P t).kind = 6) : P.underlying t = some .bool := by
  simp only [tyi] at h ⊢
  cases hu : P.underlying t with
  | none => rw [hu] at h; simp at h
  | some d => rw [hu] at h; cases d <;> simp at h; rfl
theorem sizeOf_ne {u : TypeId} (h : P.cellsOf u ≠ 0) (w : World) : (sizeOf u).run P w = .ok (P.cellsOf u) w := by
  cases hi : P.info? u with
  | none => simp [Program.cellsOf, hi] at h
  | some i => simp [sizeOf, typeInfo, hi, Program.cellsOf]
end types

theorem run_loadVar_at {P : Program} {w : World} {t : TypeId} {b off : Nat} (ok : (tyi P t).ok = true) (f : Nat → Value)
    (hf : ∀ j, j < (if (tyi P t).agg then P.cellsOf t else 1) → w.cell? ⟨b, off + j, none⟩ = some (f j)) :
    (loadVar t ⟨b, off, none⟩).run P w = .ok (if (tyi P t).agg then .agg ((List.range (P.cellsOf t)).map f).toArray else f 0) w := by
  simp only [loadVar, Sem.run_bind, run_isAgg' ok, Result.andThen_ok]
  cases ha : (tyi P t).agg with
  | true =>
    simp only [ha, if_true] at hf ⊢
    have hl := run_loadCells_list (P := P) w ⟨b, off, none⟩ ((List.range (P.cellsOf t)).map f) (fun j v hj => by
      rw [List.getElem?_map] at hj
      rcases Nat.lt_or_ge j (P.cellsOf t) with hlt | hge
      · rw [List.getElem?_range hlt] at hj
        cases hj
        rw [add_at]; exact hf j hlt
      · rw [List.getElem?_eq_none (by simpa using hge)] at hj; cases hj)
    simp only [List.length_map, List.length_range] at hl
    simp only [Sem.run_bind, run_sizeOf' ok, Result.andThen_ok, hl, Sem.run_pure]
  | false =>
    simp only [ha, Bool.false_eq_true, if_false] at hf ⊢
    have := hf 0 (by omega)
    simp only [Nat.add_zero] at this
    simp [this]

section hold
variable {P : Program} {B X : Nat → Prop} {w0 : W0} {w : World} {n : Nat} {S : St} {a : Act} {ι : Nat → Option Nat}

/-- The operation's run, in the state. -/
def Goes (P : Program) (B X : Nat → Prop) (w0 : W0) (n : Nat) (o : Oper) (S' : St) (a : Act) (w : World) : Prop :=
  ∃ v w' ι', ((execOp a.eval o).run P w = .ok (.value v) w' ∨ ((execOp a.eval o).run P w = .ok .skip w' ∧ v = undef)) ∧ Hold B X w0 n S' (a.put o.dst v) w' ι'

theorem Goes.wp {o : Oper} {S' : St} {next : Act → World → Prop} {Q : Exit → Act → World → Prop} (h : Goes P B X w0 n o S' a w)
    (hk : ∀ a' w' ι', Hold B X w0 n S' a' w' ι' → next a' w') : o.wp P a w next Q := by
  obtain ⟨v, w', ι', h1, h2⟩ := h
  unfold Oper.wp
  rcases h1 with h1 | ⟨h1, rfl⟩
  · rw [h1, Oper.upon_value]; exact hk _ _ _ h2
  · rw [h1, Oper.upon_skip]; exact hk _ _ _ h2

theorem Hold.goes (h : Hold B X w0 n S a w ι) {o : Oper} {x : PV} {v : Value} (hd : ∀ t, o.dst = some t → t < n)
    (hr : (execOp a.eval o).run P w = .ok (.value v) w) (hv : PV.At w ι X x v) : Goes P B X w0 n o (S.put o.dst x) a w :=
  ⟨v, w, ι, .inl hr, h.put hd hv⟩

def constOk : Operand → Bool
  | .const (.agg cs) => cs.all (·.oneCell')
  | .const v => v.oneCell'
  | _ => true

theorem cellPV_at {v : Value} (h : v.oneCell' = true) : PV.At w ι X (cellPV v) v := by
  unfold cellPV
  split
  · exact .nilS
  · exact .d _ _ (.sc v h)

theorem Hold.ev (h : Hold B X w0 n S a w ι) {x : Operand} (hx : constOk x = true) : PV.At w ι X (S.ev x) (a.eval x) := by
  cases x with
  | tmp t => exact h.env t
  | global g => exact .unk _
  | func f => exact .d _ _ (.fn f [] #[] rfl (fun j d v hj => by simp at hj))
  | const v =>
    simp only [St.ev, Act.eval]
    cases v with
    | agg cs =>
      simp only [constOk] at hx
      refine .ag _ cs (by simp) (fun j v hj => ?_) (fun j d v hd hj => ?_)
      · exact (Array.all_eq_true_iff_forall_mem.1 hx) v (Array.mem_of_getElem? hj)
      · rw [List.getElem?_map, Array.getElem?_toList, hj] at hd
        cases hd
        exact cellPV_at ((Array.all_eq_true_iff_forall_mem.1 hx) v (Array.mem_of_getElem? hj))
    | _ => exact cellPV_at (by simpa [constOk] using hx)

/-- A value's cells as the state knows them. -/
theorem PV.At.cells {p : PV} {v : Value} {cs : List PV} (h : PV.At w ι X p v) (hc : p.cells? = some cs) :
    v.cells.size = cs.length ∧ (∀ (j : Nat) (u : Value), v.cells[j]? = some u → u.oneCell' = true) ∧ ∀ (j : Nat) q u, cs[j]? = some q → v.cells[j]? = some u → PV.At w ι X q u := by
  have one : ∀ {p : PV} {v : Value}, PV.At w ι X p v → v.oneCell' = true → v.cells = #[v] → 
      v.cells.size = [p].length ∧ (∀ (j : Nat) (u : Value), v.cells[j]? = some u → u.oneCell' = true) ∧ ∀ (j : Nat) q u, [p][j]? = some q → v.cells[j]? = some u → PV.At w ι X q u := by
    intro p v hp h1 h2
    rw [h2]
    refine ⟨rfl, ?_, ?_⟩
    · intro j u hj
      rcases j with _ | j <;> simp at hj
      subst hj; exact h1
    · intro j q u hq hj
      rcases j with _ | j <;> simp at hq hj
      subst hq; subst hj; exact hp
  cases h with
  | d x v h =>
    have ht : ∀ l, x ≠ .tup l := by rintro l rfl; simp [PV.cells?] at hc
    obtain ⟨h1, h2, h3⟩ := h.cells ht
    have : cs = x.cells.map .d := by cases x <;> simp [PV.cells?] at hc <;> first | exact hc.symm | skip
    subst this
    refine ⟨by simpa using h1, h2, fun j q u hq hu => ?_⟩
    rw [List.getElem?_map] at hq
    cases hj : x.cells[j]? with
    | none => rw [hj] at hq; cases hq
    | some d => rw [hj] at hq; cases hq; exact .d _ _ (h3 j d u hj hu)
  | ag cs' arr hsz hone h => cases hc; exact ⟨hsz, hone, h⟩
  | tup => cases hc
  | unk => cases hc
  | und => cases hc
  | ab => cases hc
  | ref o sz off len cap capr b hι hl hc' hm hs => cases hc; exact one (.ref o sz off len cap capr b hι hl hc' hm hs) rfl rfl
  | ref0 o sz off base => cases hc; exact one (.ref0 o sz off base) rfl rfl
  | ptr o sz i c b hι => cases hc; exact one (.ptr o sz i c b hι) rfl rfl
  | nilS => cases hc; exact one .nilS rfl rfl
  | z0 base => cases hc; exact one (.z0 base) rfl rfl
  | fn f cs' arr hsz h => cases hc; exact one (.fn f cs' arr hsz h) rfl rfl

/-- A change of one object; ch: the block that is written, if any. -/
theorem Hold.change (h : Hold B X w0 n S a w ι) (ch : Option Nat) (o : Nat) (ob : Ob) (ι' : Nat → Option Nat) (w' : World)
    (hos : w'.os = w.os) (htape : w'.tape = w.tape) (hout : w'.output = w.output) (hsize : w.heap.size ≤ w'.heap.size)
    (hι : ∀ o', o' ≠ o → ι' o' = ι o')
    (hsame : ∀ b, ι o = some b → ι' o = some b)
    (hch : ∀ b, ch = some b → (∃ o', ι o' = some b) ∧ (∀ o', o' ≠ o → S.objs o' ≠ .gone → ι o' ≠ some b) ∧ bsz w' b = bsz w b)
    (hkeep : ∀ b, b < w.heap.size → ch ≠ some b → w'.heap[b]? = w.heap[b]?)
    (hown : ∀ b, ι' o = some b → ((ι o = some b ∧ S.objs o ≠ .gone) ∨ w.heap.size ≤ b ∨ ((∃ o', ι o' = some b) ∧ ∀ o', o' ≠ o → S.objs o' ≠ .gone → ι o' ≠ some b)) ∧ b < w'.heap.size)
    (hob : Ob.At w' ι' X o ob) :
    Hold B X w0 n { env := S.env, objs := upd o ob S.objs } a w' ι' := by
  have h1 : ∀ o' b, ι o' = some b → ι' o' = some b ∧ bsz w' b = bsz w b := by
    intro o' b hb
    refine ⟨?_, ?_⟩
    · by_cases he : o' = o
      · subst he; exact hsame b hb
      · exact (hι o' he).trans hb
    · by_cases hc : ch = some b
      · exact (hch b hc).2.2
      · simp only [bsz, hkeep b (h.free o' b hb).2 hc]
  have h2 : ∀ b, ownX ι' X b → ownX ι X b ∨ w.heap.size ≤ b := by
    rintro b (hb | ⟨o', hb⟩)
    · exact .inl (.inl hb)
    · by_cases he : o' = o
      · subst he
        rcases (hown b hb).1 with h | h | h
        · exact .inl (.inr ⟨_, h.1⟩)
        · exact .inr h
        · exact .inl (.inr h.1)
      · exact .inl (.inr ⟨o', by rw [← hι o' he]; exact hb⟩)
  have h3 : ∀ b, b < w.heap.size → ¬ ownX ι X b → w'.heap[b]? = w.heap[b]? := fun b hb hn => hkeep b hb (fun he => hn (.inr (hch b he).1))
  refine ⟨h.size, h.defers, ⟨hos.trans h.frame.os, htape.trans h.frame.tape, hout.trans h.frame.output, Nat.le_trans h.frame.size hsize, fun b hb => ?_⟩, h.hB, h.hXB, ?_, ?_, ?_, ?_, ?_⟩
  · rw [← h.frame.keep b hb]
    refine hkeep b (Nat.lt_of_lt_of_le (h.hB b hb) h.frame.size) (fun he => ?_)
    obtain ⟨o', ho'⟩ := (hch b he).1
    exact (h.free o' b ho').1 hb
  · intro o1 o2 b g1 g2 e1 e2
    have aux : ∀ o2 b, o2 ≠ o → S.objs o2 ≠ .gone → ι' o = some b → ι o2 = some b → False := by
      intro o2 b q2 g2 e1 e2
      rcases (hown b e1).1 with hh | hh | hh
      · exact q2 (h.inj _ _ b g2 hh.2 e2 hh.1)
      · have := (h.free o2 b e2).2; omega
      · exact hh.2 o2 q2 g2 e2
    by_cases q1 : o1 = o <;> by_cases q2 : o2 = o
    · rw [q1, q2]
    · subst q1
      rw [hι o2 q2] at e2
      simp only [upd, if_neg q2] at g2
      exact (aux o2 b q2 g2 e1 e2).elim
    · subst q2
      rw [hι o1 q1] at e1
      simp only [upd, if_neg q1] at g1
      exact (aux o1 b q1 g1 e2 e1).elim
    · rw [hι o1 q1] at e1; rw [hι o2 q2] at e2
      simp only [upd, if_neg q1] at g1
      simp only [upd, if_neg q2] at g2
      exact h.inj _ _ b g1 g2 e1 e2
  · intro o' b hb
    by_cases he : o' = o
    · subst he
      refine ⟨fun hB => ?_, (hown b hb).2⟩
      rcases (hown b hb).1 with hh | hh | hh
      · exact (h.free _ b hh.1).1 hB
      · have := h.hB b hB; have := h.frame.size; omega
      · obtain ⟨o2, h2⟩ := hh.1
        exact (h.free o2 b h2).1 hB
    · rw [hι o' he] at hb
      exact ⟨(h.free o' b hb).1, Nat.lt_of_lt_of_le (h.free o' b hb).2 hsize⟩
  · exact fun t => (h.env t).move h1 h2 h3
  · intro o'
    by_cases he : o' = o
    · subst he; simp only [upd, if_true]; exact hob
    · simp only [upd, if_neg he]
      exact (h.objs o').move (hι o' he) (fun hg b hb => hkeep b (h.free o' b hb).2 (fun hc => (hch b hc).2.1 o' he hg hb)) h1 h2 h3
  · intro o' b hb
    obtain ⟨g1, g2, g3⟩ := h.stay o' b hb
    obtain ⟨g4, g5⟩ := h1 o' b g2
    exact ⟨g1, g4, g5.trans g3⟩

/-- An object whose content is no longer known. -/
theorem Hold.gone (h : Hold B X w0 n S a w ι) (o : Nat) : Hold B X w0 n { env := S.env, objs := upd o .gone S.objs } a w ι := by
  refine ⟨h.size, h.defers, h.frame, h.hB, h.hXB, fun o1 o2 b g1 g2 e1 e2 => ?_, h.free, h.env, fun o' => ?_, h.stay⟩
  · have q1 : o1 ≠ o := fun he => g1 (by subst he; exact if_pos rfl)
    have q2 : o2 ≠ o := fun he => g2 (by subst he; exact if_pos rfl)
    simp only [upd, if_neg q1] at g1
    simp only [upd, if_neg q2] at g2
    exact h.inj _ _ b g1 g2 e1 e2
  · by_cases he : o' = o
    · subst he; simp only [upd, if_true]; exact .gone
    · simp only [upd, if_neg he]; exact h.objs o'
end hold
end Go.PS
