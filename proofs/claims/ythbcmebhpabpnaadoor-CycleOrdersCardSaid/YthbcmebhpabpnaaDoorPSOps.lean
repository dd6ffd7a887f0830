/- Each operation, in the model, does what the symbolic state says. -/
import Derived.Test.YthbcmebhpabpnaaDoorPSDefs
set_option linter.unusedSimpArgs false
set_option linter.unusedVariables false
namespace Go.PS
open Go

theorem add_at (b off j : Nat) : (⟨b, off, none⟩ : Addr).add j = ⟨b, off + j, none⟩ := by unfold Addr.add; split <;> simp_all

section types
variable {P : Program} {t : TypeId}
theorem info_some (h : (tyi P t).ok = true) : ∃ i, P.info? t = some i := by
 simp only [tyi, Program.underlying] at h
 cases hi : P.info? t with
 | none => rw [hi] at h; simp at h
 | some i => exact ⟨i, rfl⟩
theorem und_some (h : (tyi P t).ok = true) : ∃ d, P.underlying t = some d := Option.isSome_iff_exists.1 h
theorem run_sizeOf' (h : (tyi P t).ok = true) (w : World) : (sizeOf t).run P w = .ok (P.cellsOf t) w := by
 obtain ⟨i, hi⟩ := info_some h
 simp [sizeOf, typeInfo, hi, Program.cellsOf]
theorem run_isAgg' (h : (tyi P t).ok = true) (w : World) : (isAgg t).run P w = .ok (tyi P t).agg w := by
 obtain ⟨d, hd⟩ := und_some h
 simp only [isAgg, Sem.run_bind, run_underlying hd, Result.andThen_ok, tyi, hd]
 cases d <;> rfl
theorem zok_zero (h : (tyi P t).zok = true) : ∃ i z, P.info? t = some i ∧ i.zero = some z ∧ z.cells.size = P.cellsOf t ∧ (∀ v ∈ z.cells.toList, v.oneCell' = true) ∧ P.cellsOf t ≠ 0 ∧ (tyi P t).zero = z.cells.toList := by
 simp only [tyi] at h ⊢
 cases hi : P.info? t with
 | none => rw [hi] at h; simp at h
 | some i =>
  rw [hi] at h
  simp only at h ⊢
  cases hz : i.zero with
  | none => rw [hz] at h; simp at h
  | some z =>
   rw [hz] at h
   rw [Bool.and_eq_true] at h
   have h := h.1
   simp only [Bool.and_eq_true, beq_iff_eq, bne_iff_ne, ne_eq] at h
   refine ⟨i, z, rfl, hz, h.1.1, fun v hv => ?_, h.2, rfl⟩
   exact (Array.all_eq_true_iff_forall_mem.1 h.1.2) v (by simpa using hv)
theorem zok_agg (h : (tyi P t).zok = true) : (tyi P t).agg = false → (tyi P t).size = 1 := by
 simp only [tyi] at h ⊢
 cases hi : P.info? t with
 | none => rw [hi] at h; simp at h
 | some i =>
  rw [hi] at h
  simp only at h ⊢
  cases hz : i.zero with
  | none => rw [hz] at h; simp at h
  | some z =>
   rw [hz] at h
   rw [Bool.and_eq_true, Bool.or_eq_true, beq_iff_eq] at h
   intro ha
   rcases h.2 with h2 | h2
   ·exact h2
   ·rw [ha] at h2; cases h2
theorem kind3 (h : (tyi P t).kind = 3) : ∃ fs, P.underlying t = some (.struct fs) := by
 simp only [tyi] at h
 cases hu : P.underlying t with
 | none => rw [hu] at h; simp at h
 | some d => rw [hu] at h; cases d <;> first | (simp at h; done) | (dsimp only at h; split at h <;> cases h; done) | exact ⟨_, rfl⟩
theorem kind1 (h : (tyi P t).kind = 1) : P.underlying t = some (.slice (tyi P t).elem) := by
 simp only [tyi] at h ⊢
 cases hu : P.underlying t with
 | none => rw [hu] at h; simp at h
 | some d => rw [hu] at h; cases d <;> first | (simp at h; done) | (dsimp only at h; split at h <;> cases h; done) | rfl
theorem kind2 (h : (tyi P t).kind = 2) : P.underlying t = some (.array (tyi P t).len (tyi P t).elem) := by
 simp only [tyi] at h ⊢
 cases hu : P.underlying t with
 | none => rw [hu] at h; simp at h
 | some d => rw [hu] at h; cases d <;> first | (simp at h; done) | (dsimp only at h; split at h <;> cases h; done) | rfl
theorem kind6 (h : (tyi P t).kind = 6) : P.underlying t = some .bool := by
 simp only [tyi] at h ⊢
 cases hu : P.underlying t with
 | none => rw [hu] at h; simp at h
 | some d => rw [hu] at h; cases d <;> first | (simp at h; done) | (dsimp only at h; split at h <;> cases h; done) | rfl
theorem kind7 (h : (tyi P t).kind = 7) : ∃ k e i, P.underlying t = some (.map k e) ∧ P.underlying k = some (.int .i64) ∧ P.info? e = some i ∧ i.zero = some (.int .i64 0) := by
 simp only [tyi] at h
 cases hu : P.underlying t with
 | none => rw [hu] at h; simp at h
 | some d =>
  rw [hu] at h
  cases d <;> try (simp at h; done)
  rename_i k e
  dsimp only at h
  split at h
  ·rename_i hm
   simp only [mapK, Bool.and_eq_true] at hm
   obtain ⟨h1, h2⟩ := hm
   split at h1
   ·rename_i hk
    split at h2
    ·rename_i i hi
     split at h2
     ·rename_i hz
      exact ⟨k, e, i, rfl, hk, hi, hz⟩
     ·cases h2
    ·cases h2
   ·cases h1
  ·cases h
theorem sizeOf_ne {u : TypeId} (h : P.cellsOf u ≠ 0) (w : World) : (sizeOf u).run P w = .ok (P.cellsOf u) w := by
 cases hi : P.info? u with
 | none => simp [Program.cellsOf, hi] at h
 | some i => simp [sizeOf, typeInfo, hi, Program.cellsOf]
end types

theorem run_loadVar_at {P : Program} {w : World} {t : TypeId} {b off : Nat} (ok : (tyi P t).ok = true) (f : Nat → Value)
  (hf : ∀ j, j < (if (tyi P t).agg then P.cellsOf t else 1) → w.cell? ⟨b, off + j, none⟩ = some (f j)) :
  (loadVar t ⟨b, off, none⟩).run P w = .ok (if (tyi P t).agg then .agg ((List.range (P.cellsOf t)).map f).toArray else f 0) w := by
 simp only [loadVar, Sem.run_bind, run_isAgg' ok, Result.andThen_ok]
 cases ha : (tyi P t).agg with
 | true =>
  simp only [ha, if_true] at hf ⊢
  have hl := run_loadCells_list (P := P) w ⟨b, off, none⟩ ((List.range (P.cellsOf t)).map f) (fun j v hj => by
   rw [List.getElem?_map] at hj
   rcases Nat.lt_or_ge j (P.cellsOf t) with hlt | hge
   ·rw [List.getElem?_range hlt] at hj
    cases hj
    rw [add_at]; exact hf j hlt
   ·rw [List.getElem?_eq_none (by simpa using hge)] at hj; cases hj)
  simp only [List.length_map, List.length_range] at hl
  simp only [Sem.run_bind, run_sizeOf' ok, Result.andThen_ok, hl, Sem.run_pure]
 | false =>
  simp only [ha, Bool.false_eq_true, if_false] at hf ⊢
  have := hf 0 (by omega)
  simp only [Nat.add_zero] at this
  simp [this]

section hold
variable {P : Program} {B X : Nat → Prop} {w0 : W0} {w : World} {n : Nat} {S : St} {a : Act} {ι : Nat → Option Nat}

def Goes (P : Program) (B X : Nat → Prop) (w0 : W0) (n : Nat) (o : Oper) (S' : St) (a : Act) (w : World) : Prop :=
 ∃ v w' ι', ((execOp a.eval o).run P w = .ok (.value v) w' ∨ ((execOp a.eval o).run P w = .ok .skip w' ∧ v = undef)) ∧ Hold B X w0 n S' (a.put o.dst v) w' ι'

theorem Goes.wp {o : Oper} {S' : St} {next : Act → World → Prop} {Q : Exit → Act → World → Prop} (h : Goes P B X w0 n o S' a w)
  (hk : ∀ a' w' ι', Hold B X w0 n S' a' w' ι' → next a' w') : o.wp P a w next Q := by
 obtain ⟨v, w', ι', h1, h2⟩ := h
 unfold Oper.wp
 rcases h1 with h1 | ⟨h1, rfl⟩
 ·rw [h1, Oper.upon_value]; exact hk _ _ _ h2
 ·rw [h1, Oper.upon_skip]; exact hk _ _ _ h2

theorem Hold.goes (h : Hold B X w0 n S a w ι) {o : Oper} {x : PV} {v : Value} (hd : ∀ t, o.dst = some t → t < n)
  (hr : (execOp a.eval o).run P w = .ok (.value v) w) (hv : PV.At w ι X x v) : Goes P B X w0 n o (S.put o.dst x) a w :=
 ⟨v, w, ι, .inl hr, h.put hd hv⟩

def constOk : Operand → Bool
 | .const (.agg cs) => cs.all (·.oneCell')
 | .const v => v.oneCell'
 | _ => true

theorem cellPV_at {v : Value} (h : v.oneCell' = true) : PV.At w ι X (cellPV v) v := by
 unfold cellPV
 split
 ·exact .nilS
 ·exact .d _ _ (.sc v h)

theorem Hold.ev (h : Hold B X w0 n S a w ι) {x : Operand} (hx : constOk x = true) : PV.At w ι X (S.ev x) (a.eval x) := by
 cases x with
 | tmp t => exact h.env t
 | global g => exact .unk _
 | func f => exact .d _ _ (.fn f [] #[] rfl (fun j d v hj => by simp at hj))
 | const v =>
  simp only [St.ev, Act.eval]
  cases v with
  | agg cs =>
   simp only [constOk] at hx
   refine .ag _ cs (by simp) (fun j v hj => ?_) (fun j d v hd hj => ?_)
   ·exact (Array.all_eq_true_iff_forall_mem.1 hx) v (Array.mem_of_getElem? hj)
   ·rw [List.getElem?_map, Array.getElem?_toList, hj] at hd
    cases hd
    exact cellPV_at ((Array.all_eq_true_iff_forall_mem.1 hx) v (Array.mem_of_getElem? hj))
  | _ => exact cellPV_at (by simpa [constOk] using hx)

theorem PV.At.cells {p : PV} {v : Value} {cs : List PV} (h : PV.At w ι X p v) (hc : p.cells? = some cs) :
  v.cells.size = cs.length ∧ (∀ (j : Nat) (u : Value), v.cells[j]? = some u → u.oneCell' = true) ∧ ∀ (j : Nat) q u, cs[j]? = some q → v.cells[j]? = some u → PV.At w ι X q u := by
 have one : ∀ {p : PV} {v : Value}, PV.At w ι X p v → v.oneCell' = true → v.cells = #[v] → 
   v.cells.size = [p].length ∧ (∀ (j : Nat) (u : Value), v.cells[j]? = some u → u.oneCell' = true) ∧ ∀ (j : Nat) q u, [p][j]? = some q → v.cells[j]? = some u → PV.At w ι X q u := by
  intro p v hp h1 h2
  rw [h2]
  refine ⟨rfl, ?_, ?_⟩
  ·intro j u hj
   rcases j with _ | j <;> simp at hj
   subst hj; exact h1
  ·intro j q u hq hj
   rcases j with _ | j <;> simp at hq hj
   subst hq; subst hj; exact hp
 cases h with
 | d x v h =>
  have ht : ∀ l, x ≠ .tup l := by rintro l rfl; simp [PV.cells?] at hc
  obtain ⟨h1, h2, h3⟩ := h.cells ht
  have : cs = x.cells.map .d := by cases x <;> simp [PV.cells?] at hc <;> first | exact hc.symm | skip
  subst this
  refine ⟨by simpa using h1, h2, fun j q u hq hu => ?_⟩
  rw [List.getElem?_map] at hq
  cases hj : x.cells[j]? with
  | none => rw [hj] at hq; cases hq
  | some d => rw [hj] at hq; cases hq; exact .d _ _ (h3 j d u hj hu)
 | ag cs' arr hsz hone h => cases hc; exact ⟨hsz, hone, h⟩
 | tup => cases hc
 | unk => cases hc
 | und => cases hc
 | ab => cases hc
 | ref o sz off len cap capr b hι hl hc' hm hs => cases hc; exact one (.ref o sz off len cap capr b hι hl hc' hm hs) rfl rfl
 | ref0 o sz off base => cases hc; exact one (.ref0 o sz off base) rfl rfl
 | ptr o sz i c b hι => cases hc; exact one (.ptr o sz i c b hι) rfl rfl
 | nilS => cases hc; exact one .nilS rfl rfl
 | z0 base => cases hc; exact one (.z0 base) rfl rfl
 | mp o b hι => cases hc; exact one (.mp o b hι) rfl rfl
 | ifp T o b hι => cases hc; exact one (.ifp T o b hι) rfl rfl
 | fn f cs' arr hsz h => cases hc; exact one (.fn f cs' arr hsz h) rfl rfl

theorem Hold.change (h : Hold B X w0 n S a w ι) (ch : Option Nat) (o : Nat) (ob : Ob) (ι' : Nat → Option Nat) (w' : World)
  (hos : w'.os = w.os) (htape : w'.tape = w.tape) (hout : w'.output = w.output) (hsize : w.heap.size ≤ w'.heap.size)
  (hι : ∀ o', o' ≠ o → ι' o' = ι o')
  (hsame : ∀ b, ι o = some b → ι' o = some b)
  (hch : ∀ b, ch = some b → (∃ o', ι o' = some b) ∧ (∀ o', o' ≠ o → S.objs o' ≠ .gone → ι o' ≠ some b) ∧ bsz w' b = bsz w b)
  (hkeep : ∀ b, b < w.heap.size → ch ≠ some b → w'.heap[b]? = w.heap[b]?)
  (hown : ∀ b, ι' o = some b → ((ι o = some b ∧ S.objs o ≠ .gone) ∨ w.heap.size ≤ b ∨ ((∃ o', ι o' = some b) ∧ ∀ o', o' ≠ o → S.objs o' ≠ .gone → ι o' ≠ some b)) ∧ b < w'.heap.size)
  (hob : Ob.At w' ι' X o ob) :
  Hold B X w0 n { env := S.env, objs := upd o ob S.objs } a w' ι' := by
 have h1 : ∀ o' b, ι o' = some b → ι' o' = some b ∧ bsz w' b = bsz w b := by
  intro o' b hb
  refine ⟨?_, ?_⟩
  ·by_cases he : o' = o
   ·subst he; exact hsame b hb
   ·exact (hι o' he).trans hb
  ·by_cases hc : ch = some b
   ·exact (hch b hc).2.2
   ·simp only [bsz, hkeep b (h.free o' b hb).2 hc]
 have h2 : ∀ b, ownX ι' X b → ownX ι X b ∨ w.heap.size ≤ b := by
  rintro b (hb | ⟨o', hb⟩)
  ·exact .inl (.inl hb)
  ·by_cases he : o' = o
   ·subst he
    rcases (hown b hb).1 with h | h | h
    ·exact .inl (.inr ⟨_, h.1⟩)
    ·exact .inr h
    ·exact .inl (.inr h.1)
   ·exact .inl (.inr ⟨o', by rw [← hι o' he]; exact hb⟩)
 have h3 : ∀ b, b < w.heap.size → ¬ ownX ι X b → w'.heap[b]? = w.heap[b]? := fun b hb hn => hkeep b hb (fun he => hn (.inr (hch b he).1))
 refine ⟨h.size, h.defers, ⟨hos.trans h.frame.os, htape.trans h.frame.tape, hout.trans h.frame.output, Nat.le_trans h.frame.size hsize, fun b hb => ?_⟩, h.hB, h.hXB, ?_, ?_, ?_, ?_, ?_⟩
 ·rw [← h.frame.keep b hb]
  refine hkeep b (Nat.lt_of_lt_of_le (h.hB b hb) h.frame.size) (fun he => ?_)
  obtain ⟨o', ho'⟩ := (hch b he).1
  exact (h.free o' b ho').1 hb
 ·intro o1 o2 b g1 g2 e1 e2
  have aux : ∀ o2 b, o2 ≠ o → S.objs o2 ≠ .gone → ι' o = some b → ι o2 = some b → False := by
   intro o2 b q2 g2 e1 e2
   rcases (hown b e1).1 with hh | hh | hh
   ·exact q2 (h.inj _ _ b g2 hh.2 e2 hh.1)
   ·have := (h.free o2 b e2).2; omega
   ·exact hh.2 o2 q2 g2 e2
  by_cases q1 : o1 = o <;> by_cases q2 : o2 = o
  ·rw [q1, q2]
  ·subst q1
   rw [hι o2 q2] at e2
   simp only [upd, if_neg q2] at g2
   exact (aux o2 b q2 g2 e1 e2).elim
  ·subst q2
   rw [hι o1 q1] at e1
   simp only [upd, if_neg q1] at g1
   exact (aux o1 b q1 g1 e2 e1).elim
  ·rw [hι o1 q1] at e1; rw [hι o2 q2] at e2
   simp only [upd, if_neg q1] at g1
   simp only [upd, if_neg q2] at g2
   exact h.inj _ _ b g1 g2 e1 e2
 ·intro o' b hb
  by_cases he : o' = o
  ·subst he
   refine ⟨fun hB => ?_, (hown b hb).2⟩
   rcases (hown b hb).1 with hh | hh | hh
   ·exact (h.free _ b hh.1).1 hB
   ·have := h.hB b hB; have := h.frame.size; omega
   ·obtain ⟨o2, h2⟩ := hh.1
    exact (h.free o2 b h2).1 hB
  ·rw [hι o' he] at hb
   exact ⟨(h.free o' b hb).1, Nat.lt_of_lt_of_le (h.free o' b hb).2 hsize⟩
 ·exact fun t => (h.env t).move h1 h2 h3
 ·intro o'
  by_cases he : o' = o
  ·subst he; simp only [upd, if_true]; exact hob
  ·simp only [upd, if_neg he]
   exact (h.objs o').move (hι o' he) (fun hg b hb => hkeep b (h.free o' b hb).2 (fun hc => (hch b hc).2.1 o' he hg hb)) h1 h2 h3
 ·intro o' b hb
  obtain ⟨g1, g2, g3⟩ := h.stay o' b hb
  obtain ⟨g4, g5⟩ := h1 o' b g2
  exact ⟨g1, g4, g5.trans g3⟩

theorem Hold.gone (h : Hold B X w0 n S a w ι) (o : Nat) : Hold B X w0 n { env := S.env, objs := upd o .gone S.objs } a w ι := by
 refine ⟨h.size, h.defers, h.frame, h.hB, h.hXB, fun o1 o2 b g1 g2 e1 e2 => ?_, h.free, h.env, fun o' => ?_, h.stay⟩
 ·have q1 : o1 ≠ o := fun he => g1 (by subst he; exact if_pos rfl)
  have q2 : o2 ≠ o := fun he => g2 (by subst he; exact if_pos rfl)
  simp only [upd, if_neg q1] at g1
  simp only [upd, if_neg q2] at g2
  exact h.inj _ _ b g1 g2 e1 e2
 ·by_cases he : o' = o
  ·subst he; simp only [upd, if_true]; exact .gone
  ·simp only [upd, if_neg he]; exact h.objs o'
end hold
end Go.PS
namespace Go.PS
open Go

section hold
variable {P : Program} {B X : Nat → Prop} {w0 : W0} {w : World} {n : Nat} {S : St} {a : Act} {ι : Nat → Option Nat}

theorem D.At.single {x : D} {v : Value} {Y : Nat → Prop} (h : D.At w Y x v) (h1 : v.oneCell' = true) : x.cells = [x] := by
 cases h <;> first | rfl | (simp [Value.oneCell'] at h1)

theorem cell_arr {b o : Nat} {c : Array Value} {T : TypeId} {fr : Nat × Nat} (hb : w.heap[b]? = some (.cells c T fr)) : w.cell? ⟨b, o, none⟩ = c[o]? := by
 simp [World.cell?, hb]

theorem load_pt {T : TypeId} {cs : List D} {va : Value} (hp : D.At w (ownX ι X) (.pt cs) va) (hok : (tyi P T).ok = true) (hc : (ldD (tyi P T) cs).1) :
  ∃ v, (Instr.loadAt T va).run P w = .ok v w ∧ D.At w (ownX ι X) (ldD (tyi P T) cs).2 v := by
 cases hp with
 | pt cs b off vals hv h =>
  have hsz : ((tyi P T).agg = true → P.cellsOf T ≤ cs.length) ∧ ((tyi P T).agg = false → ∃ x r, cs = x :: r) := by
   unfold ldD at hc
   cases ha : (tyi P T).agg with
   | true => simp only [ha, if_true] at hc; exact ⟨fun _ => hc, (fun h => by cases h)⟩
   | false =>
    simp only [ha, Bool.false_eq_true, if_false] at hc
    refine ⟨(fun h => by cases h), fun _ => ?_⟩
    cases cs with
    | nil => simp at hc
    | cons x r => exact ⟨x, r, rfl⟩
  have hrun := run_loadVar_at (P := P) (w := w) (t := T) (b := b) (off := off) hok vals (fun j hj => by
   have : j < cs.length := by
    cases ha : (tyi P T).agg with
    | true => rw [ha] at hj; simp at hj; have := hsz.1 ha; omega
    | false => rw [ha] at hj; simp at hj; obtain ⟨x, r, rfl⟩ := hsz.2 ha; simp; omega
   exact (hv j _ (List.getElem?_eq_getElem this)).1)
  refine ⟨_, by simp only [Instr.loadAt, Instr.sureAddr, Sem.run_bind, Sem.run_pure, Result.andThen_ok]; exact hrun, ?_⟩
  unfold ldD
  cases ha : (tyi P T).agg with
  | true =>
   have hs := hsz.1 ha
   simp only [if_true]
   have hg : ∀ (j : Nat) (v : Value), ((List.range (P.cellsOf T)).map vals).toArray[j]? = some v → j < P.cellsOf T ∧ v = vals j := by
    intro j v hj
    rw [List.getElem?_toArray, List.getElem?_map] at hj
    rcases Nat.lt_or_ge j (P.cellsOf T) with hlt | hge
    ·rw [List.getElem?_range hlt] at hj; cases hj; exact ⟨hlt, rfl⟩
    ·rw [List.getElem?_eq_none (by simpa using hge)] at hj; cases hj
   refine .ag _ _ (by simp [tyi]; omega) (fun j v hj => ?_) (fun j d v hd hj => ?_)
   ·obtain ⟨hlt, rfl⟩ := hg j v hj
    exact (hv j _ (List.getElem?_eq_getElem (by omega))).2.1
   ·obtain ⟨hlt, rfl⟩ := hg j v hj
    rw [List.getElem?_take] at hd
    split at hd
    ·exact h j d hd
    ·cases hd
  | false =>
   obtain ⟨x, r, rfl⟩ := hsz.2 ha
   simp only [Bool.false_eq_true, if_false]
   exact h 0 x rfl

theorem load_ptr (hS : Hold B X w0 n S a w ι) {T : TypeId} {o sz i c : Nat} {va : Value} (hp : PV.At w ι X (.ptr o sz i c) va) (hok : (tyi P T).ok = true)
  (hc : (ldOb (tyi P T) (S.objs o) sz i c).1) : ∃ v, (Instr.loadAt T va).run P w = .ok v w ∧ PV.At w ι X (ldOb (tyi P T) (S.objs o) sz i c).2 v := by
 cases hp with
 | ptr o sz i c b hι =>
  have hob := hS.objs o
  generalize S.objs o = ob at hob hc
  cases hob with
  | dead h => rw [h] at hι; cases hι
  | gone => exact hc.elim
  | imap => exact hc.elim
  | row0 sz' h => rw [h] at hι; cases hι
  | cells cs b' arr T' hι' hb hsz hone h =>
   rw [hι] at hι'; cases hι'
   simp only [ldOb] at hc ⊢
   generalize hq : i * sz + c = q at hc ⊢
   have hcl : ((tyi P T).agg = true → q + P.cellsOf T ≤ cs.length ∨ P.cellsOf T = 0) ∧ ((tyi P T).agg = false → ∃ x r, cs.drop q = x :: r) := by
    unfold ldP at hc
    cases ha : (tyi P T).agg with
    | true => simp only [ha, if_true, List.length_drop] at hc; exact ⟨fun _ => by simp [tyi] at hc; omega, (fun h => by cases h)⟩
    | false =>
     simp only [ha, Bool.false_eq_true, if_false] at hc
     refine ⟨(fun h => by cases h), fun _ => ?_⟩
     cases hd : cs.drop q with
     | nil => rw [hd] at hc; simp at hc
     | cons x r => exact ⟨x, r, rfl⟩
   have hrun := run_loadVar_at (P := P) (w := w) (t := T) (b := b) (off := q) hok (fun j => arr.getD (q + j) undef) (fun j hj => by
    have : q + j < arr.size := by
     cases ha : (tyi P T).agg with
     | true => rw [ha] at hj; simp at hj; have := hcl.1 ha; omega
     | false =>
      rw [ha] at hj; simp at hj; obtain ⟨x, r, hd⟩ := hcl.2 ha
      have := congrArg List.length hd; simp at this; omega
    rw [cell_arr hb]
    simp [Array.getD, this])
   refine ⟨_, by simp only [Instr.loadAt, Instr.sureAddr, Sem.run_bind, Sem.run_pure, Result.andThen_ok]; exact hrun, ?_⟩
   unfold ldP
   cases ha : (tyi P T).agg with
   | true =>
    have hs := hcl.1 ha
    simp only [if_true]
    have hg : ∀ (j : Nat) (v : Value), ((List.range (P.cellsOf T)).map fun j => arr.getD (q + j) undef).toArray[j]? = some v → j < P.cellsOf T ∧ arr[q + j]? = some v := by
     intro j v hj
     rw [List.getElem?_toArray, List.getElem?_map] at hj
     rcases Nat.lt_or_ge j (P.cellsOf T) with hlt | hge
     ·rw [List.getElem?_range hlt] at hj; cases hj
      have hlt2 : q + j < arr.size := by omega
      exact ⟨hlt, by simp [Array.getD, hlt2]⟩
     ·rw [List.getElem?_eq_none (by simpa using hge)] at hj; cases hj
    refine .ag _ _ (by simp [tyi]; omega) (fun j v hj => ?_) (fun j d v hd hj => ?_)
    ·exact hone _ v (hg j v hj).2
    ·obtain ⟨hlt, hv⟩ := hg j v hj
     rw [List.getElem?_take] at hd
     split at hd
     ·rw [List.getElem?_drop] at hd; exact h (q + j) d v hd hv
     ·cases hd
   | false =>
    obtain ⟨x, r, hd⟩ := hcl.2 ha
    simp only [Bool.false_eq_true, if_false, hd]
    have h0 : cs[q]? = some x := by have := congrArg (·[0]?) hd; simpa using this
    have hlt : q < arr.size := by have := (List.getElem?_eq_some_iff.1 h0).1; omega
    exact h q x _ h0 (by simp [Array.getD, hlt])
  | row sz' l b' arr T' hι' hb hsz hcl hone h =>
   rw [hι] at hι'; cases hι'
   simp only [ldOb] at hc ⊢
   obtain ⟨rfl, hi, hc⟩ := hc
   have hli : l[i]? = some l[i] := List.getElem?_eq_getElem hi
   simp only [hli, Option.getD_some] at hc ⊢
   have hcs : l[i].cells.length = sz := hcl _ (List.getElem_mem hi)
   have hroom : i * sz + sz ≤ arr.size := by
    have : (i + 1) * sz ≤ l.length * sz := Nat.mul_le_mul_right _ hi
    rw [Nat.add_mul] at this; omega
   have hld : D.At w (ownX ι X) (.pt (l[i].cells.drop c)) (.pointer (some ⟨b, i * sz + c, none⟩)) ∨ True := .inr trivial
   have hcl2 : ((tyi P T).agg = true → c + P.cellsOf T ≤ sz ∨ P.cellsOf T = 0) ∧ ((tyi P T).agg = false → ∃ x r, l[i].cells.drop c = x :: r) := by
    unfold ldD at hc
    cases ha : (tyi P T).agg with
    | true => simp only [ha, if_true, List.length_drop] at hc; exact ⟨fun _ => by simp [tyi] at hc; omega, (fun h => by cases h)⟩
    | false =>
     simp only [ha, Bool.false_eq_true, if_false] at hc
     refine ⟨(fun h => by cases h), fun _ => ?_⟩
     cases hd : l[i].cells.drop c with
     | nil => rw [hd] at hc; simp at hc
     | cons x r => exact ⟨x, r, rfl⟩
   have hrun := run_loadVar_at (P := P) (w := w) (t := T) (b := b) (off := i * sz + c) hok (fun j => arr.getD (i * sz + c + j) undef) (fun j hj => by
    have : i * sz + c + j < arr.size := by
     cases ha : (tyi P T).agg with
     | true => rw [ha] at hj; simp at hj; have := hcl2.1 ha; omega
     | false =>
      rw [ha] at hj; simp at hj; obtain ⟨x, r, hd⟩ := hcl2.2 ha
      have := congrArg List.length hd; simp at this; omega
    rw [cell_arr hb]
    simp [Array.getD, this])
   refine ⟨_, by simp only [Instr.loadAt, Instr.sureAddr, Sem.run_bind, Sem.run_pure, Result.andThen_ok]; exact hrun, .d _ _ ?_⟩
   unfold ldD
   cases ha : (tyi P T).agg with
   | true =>
    have hs := hcl2.1 ha
    simp only [if_true]
    have hg : ∀ (j : Nat) (v : Value), ((List.range (P.cellsOf T)).map fun j => arr.getD (i * sz + c + j) undef).toArray[j]? = some v → j < P.cellsOf T ∧ arr[i * sz + c + j]? = some v := by
     intro j v hj
     rw [List.getElem?_toArray, List.getElem?_map] at hj
     rcases Nat.lt_or_ge j (P.cellsOf T) with hlt | hge
     ·rw [List.getElem?_range hlt] at hj; cases hj
      have hlt2 : i * sz + c + j < arr.size := by omega
      exact ⟨hlt, by simp [Array.getD, hlt2]⟩
     ·rw [List.getElem?_eq_none (by simpa using hge)] at hj; cases hj
    refine .ag _ _ (by simp [tyi]; omega) (fun j v hj => ?_) (fun j d v hd hj => ?_)
    ·exact hone _ v (hg j v hj).2
    ·obtain ⟨hlt, hv⟩ := hg j v hj
     rw [List.getElem?_take] at hd
     split at hd
     ·rw [List.getElem?_drop] at hd
      rw [Nat.add_assoc] at hv
      exact h i _ (c + j) d v hli hd hv
     ·cases hd
   | false =>
    obtain ⟨x, r, hd⟩ := hcl2.2 ha
    simp only [Bool.false_eq_true, if_false, hd]
    have h0 : l[i].cells[c]? = some x := by have := congrArg (·[0]?) hd; simpa using this
    have hlt : i * sz + c < arr.size := by have := (List.getElem?_eq_some_iff.1 h0).1; omega
    exact h i _ c x _ hli h0 (by simp [Array.getD, hlt])

theorem sim_load (hS : Hold B X w0 n S a w ι) {dst : Option Nat} {T : TypeId} {x : Operand} {ty : TypeId} {pos : String} {af : Array Edge} {gd : Option (Nat × Bool)} (hd : ∀ t, dst = some t → t < n) (hx : constOk x = true)
  (hc : (semLoad (tyi P T) S.objs (S.ev x)).1) : Goes P B X w0 n ⟨dst, .load T x, ty, pos, af, gd⟩ (S.app dst (semLoad (tyi P T) S.objs (S.ev x)).2) a w := by
 have hp := hS.ev hx
 generalize S.ev x = p at hc hp
 unfold semLoad at hc ⊢
 split at hc
 ·obtain ⟨hok, hc⟩ := hc
  simp only
  rw [app_v]
  cases hp with
  | d _ _ hp =>
   obtain ⟨v, hr, hv⟩ := load_pt hp hok hc
   exact hS.goes hd (by simp only [execOp, Sem.run_bind, hr, Result.andThen_ok, Sem.run_pure]) (.d _ _ hv)
 ·obtain ⟨hok, hc⟩ := hc
  simp only
  rw [app_rd]
  obtain ⟨v, hr, hv⟩ := load_ptr hS hp hok hc
  exact hS.goes hd (by simp only [execOp, Sem.run_bind, hr, Result.andThen_ok, Sem.run_pure]) hv
 ·exact hc.elim
end hold
end Go.PS
namespace Go.PS
open Go

section hold
variable {P : Program} {B X : Nat → Prop} {w0 : W0} {w : World} {n : Nat} {S : St} {a : Act} {ι : Nat → Option Nat} {dst : Option Nat} {ty : TypeId} {pos : String} {af : Array Edge} {gd : Option (Nat × Bool)}

theorem sim_move (hS : Hold B X w0 n S a w ι) {x : Operand} (hd : ∀ t, dst = some t → t < n) (hx : constOk x = true) : Goes P B X w0 n ⟨dst, .move x, ty, pos, af, gd⟩ (S.app dst (.v (S.ev x))) a w := by
 rw [app_v]; exact hS.goes hd rfl (hS.ev hx)
theorem sim_assign (hS : Hold B X w0 n S a w ι) {x : Operand} (hd : ∀ t, dst = some t → t < n) (hx : constOk x = true) : Goes P B X w0 n ⟨dst, .assign x, ty, pos, af, gd⟩ (S.app dst (.v (S.ev x))) a w := by
 rw [app_v]; exact hS.goes hd rfl (hS.ev hx)

theorem sim_pick (hS : Hold B X w0 n S a w ι) {c x y : Operand} (hd : ∀ t, dst = some t → t < n) (h0 : constOk c = true) (hx : constOk x = true) (hy : constOk y = true) (hc : (semPick (S.ev c) (S.ev x) (S.ev y)).1) :
  Goes P B X w0 n ⟨dst, .pick c x y, ty, pos, af, gd⟩ (S.app dst (semPick (S.ev c) (S.ev x) (S.ev y)).2) a w := by
 have hp := hS.ev h0
 have hpx := hS.ev hx
 have hpy := hS.ev hy
 generalize S.ev c = p at hc hp
 unfold semPick at hc ⊢
 split at hc
 ·rename_i t
  simp only
  rw [app_v]
  cases hp with
  | d _ _ hp =>
   have e : a.eval c = .bool t := by cases h : a.eval c <;> rw [h] at hp <;> cases hp; rfl
   cases t
   ·exact hS.goes hd (by simp [execOp, e, asBool]) hpy
   ·exact hS.goes hd (by simp [execOp, e, asBool]) hpx
 ·exact hc.elim

theorem sim_field (hS : Hold B X w0 n S a w ι) {T : TypeId} {x : Operand} {f : Nat} (hd : ∀ t, dst = some t → t < n) (hx : constOk x = true)
  (hc : (semField P (tyi P T) f (S.ev x)).1) : Goes P B X w0 n ⟨dst, .fieldAddr T x f, ty, pos, af, gd⟩ (S.app dst (semField P (tyi P T) f (S.ev x)).2) a w := by
 have hp := hS.ev hx
 generalize S.ev x = p at hc hp
 unfold semField at hc ⊢
 cases hf : (tyi P T).fields[f]? with
 | none => rw [hf] at hc; exact hc.elim
 | some q =>
  obtain ⟨off, ft⟩ := q
  rw [hf] at hc
  simp only at hc ⊢
  have run : ∀ (b o : Nat), a.eval x = .pointer (some ⟨b, o, none⟩) → (tyi P T).kind = 3 → P.cellsOf ft ≠ 0 →
    (execOp a.eval ⟨dst, .fieldAddr T x f, ty, pos, af, gd⟩).run P w = .ok (.value (.pointer (some ⟨b, o + off, none⟩))) w := by
   intro b o e hk hne
   obtain ⟨fs, hu⟩ := kind3 hk
   have hff : ∃ fd, fs[f]? = some fd ∧ fd.offset = off ∧ fd.type = ft := by
    simp only [tyi, hu] at hf
    rw [List.getElem?_map, Array.getElem?_toList] at hf
    cases hq : fs[f]? with
    | none => rw [hq] at hf; cases hf
    | some fd => rw [hq] at hf; cases hf; exact ⟨fd, rfl, rfl, rfl⟩
   obtain ⟨fd, hfd, rfl, rfl⟩ := hff
   have hsz := sizeOf_ne (P := P) hne w
   simp only [execOp, Instr.fieldAt, e, Sem.run_bind, run_underlying hu, Result.andThen_ok, hfd, Instr.sureAddr, Sem.run_pure, fieldPlace, hsz, hne, if_false, add_at]
  cases p with
  | d dd =>
   cases dd with
   | pt cs =>
    obtain ⟨hk, hne⟩ := hc
    simp only
    rw [app_v]
    cases hp with
    | d _ _ hp =>
     generalize hva : a.eval x = va at hp
     cases hp with
     | pt cs b o vals hv h =>
      refine hS.goes hd (run b o hva hk hne) (.d _ _ ?_)
      refine .pt _ b (o + off) (fun j => vals (off + j)) (fun j c hj => ?_) (fun j c hj => ?_)
      ·rw [List.getElem?_drop] at hj
       have := hv (off + j) c hj
       rw [Nat.add_assoc]; exact this
      ·rw [List.getElem?_drop] at hj; exact h (off + j) c hj
   | _ => exact hc.elim
  | ptr o sz i c =>
   obtain ⟨hk, hne⟩ := hc
   simp only
   rw [app_v]
   generalize hva : a.eval x = va at hp
   cases hp with
   | ptr o sz i c b hι =>
    refine hS.goes hd (run b _ hva hk hne) ?_
    rw [Nat.add_assoc]
    exact .ptr o sz i (c + off) b hι
  | _ => exact hc.elim

theorem d_int {v : Value} {m : Int} (h : PV.At w ι X (.d (.sc (.int .i64 m))) v) : v = .int .i64 m := by
 cases h with
 | d _ _ h => cases h; rfl
theorem d_bool {v : Value} {b : Bool} (h : PV.At w ι X (.d (.sc (.bool b))) v) : v = .bool b := by
 cases h with
 | d _ _ h => cases h; rfl

theorem sim_index (hS : Hold B X w0 n S a w ι) {T : TypeId} {x i : Operand} (hd : ∀ t, dst = some t → t < n) (hx : constOk x = true) (hi : constOk i = true)
  (hc : (semIndex (tyi P T) (P.cellsOf (tyi P T).elem) (S.ev x) (S.ev i)).1) : Goes P B X w0 n ⟨dst, .indexAddr T x i, ty, pos, af, gd⟩ (S.app dst (semIndex (tyi P T) (P.cellsOf (tyi P T).elem) (S.ev x) (S.ev i)).2) a w := by
 have hp := hS.ev hx
 have hq := hS.ev hi
 generalize S.ev x = p at hc hp
 generalize S.ev i = q at hc hq
 unfold semIndex at hc ⊢
 split at hc
 ·rename_i l m
  obtain ⟨hk, hne, h0, hlt, hcl⟩ := hc
  simp only
  rw [app_v]
  have hu := kind1 hk
  have ei := d_int hq
  have hsz' := sizeOf_ne (P := P) (u := (tyi P T).elem) hne w
  generalize hva : a.eval x = va at hp
  cases hp with
  | d _ _ hp =>
   have hli : l[m.toNat]? = some l[m.toNat] := List.getElem?_eq_getElem hlt
   simp only [hli, Option.getD_some] at hcl ⊢
   cases hp with
   | slnil => simp at hlt
   | sl l b off cap sz hl hcap hsz vals hv h =>
    have hs : sz = P.cellsOf (tyi P T).elem := by rw [← hcl]; exact (hsz _ (List.getElem_mem hlt)).symm
    refine hS.goes (v := .pointer (some ⟨b, off + m.toNat * sz, none⟩)) hd ?_ (.d _ _ ?_)
    ·simp [execOp, Instr.indexAt, hva, ei, asIntOf, run_underlying hu, hsz', h0, hs, add_at]
     omega
    ·exact .pt _ b _ (fun j => vals m.toNat j) (fun j c hj => hv m.toNat _ j c hli hj) (fun j c hj => h m.toNat _ j c hli hj)
 ·rename_i o sz off len cap m
  obtain ⟨hk, hne, h0, hlt, hs⟩ := hc
  simp only
  rw [app_v]
  have hu := kind1 hk
  have ei := d_int hq
  have hsz' := sizeOf_ne (P := P) (u := (tyi P T).elem) hne w
  generalize hva : a.eval x = va at hp
  cases hp with
  | ref0 => simp at hlt
  | ref o sz off len cap capr b hι hl hcc hm hss =>
   refine hS.goes (v := .pointer (some ⟨b, (off + m.toNat) * sz + 0, none⟩)) hd ?_ (.ptr o sz (off + m.toNat) 0 b hι)
   simp [execOp, Instr.indexAt, hva, ei, asIntOf, run_underlying hu, hsz', h0, hs, add_at, Nat.add_mul]
   omega
 ·rename_i o sz i0 c m
  obtain ⟨hk, hne, h0, hlt⟩ := hc
  simp only
  rw [app_v]
  have hu := kind2 hk
  have ei := d_int hq
  have hsz' := sizeOf_ne (P := P) (u := (tyi P T).elem) hne w
  generalize hva : a.eval x = va at hp
  cases hp with
  | ptr o sz i c b hι =>
   refine hS.goes (v := .pointer (some ⟨b, i0 * sz + (c + m.toNat * P.cellsOf (tyi P T).elem), none⟩)) hd ?_ (.ptr o sz i0 (c + m.toNat * P.cellsOf (tyi P T).elem) b hι)
   have hm : m < (tyi P T).len := by omega
   simp [execOp, Instr.indexAt, hva, ei, asIntOf, run_underlying hu, hsz', h0, hm, add_at, Instr.sureAddr, Nat.add_assoc]
 ·exact hc.elim

theorem sim_un (hS : Hold B X w0 n S a w ι) {op : UnOp} {T : TypeId} {x : Operand} (hd : ∀ t, dst = some t → t < n) (hx : constOk x = true)
  (hc : (semUn op (S.ev x)).1) : Goes P B X w0 n ⟨dst, .unOp op T x, ty, pos, af, gd⟩ (S.app dst (semUn op (S.ev x)).2) a w := by
 have hp := hS.ev hx
 generalize S.ev x = p at hc hp
 unfold semUn at hc ⊢
 split at hc
 ·simp only
  rw [app_v]
  exact hS.goes hd (by simp [execOp, d_bool hp, Op.unary]) (.d _ _ (.sc _ rfl))
 ·simp only
  rw [app_v]
  obtain ⟨b, e1⟩ : ∃ b, a.eval x = .bool b := by
   generalize a.eval x = v at hp
   cases hp; exact ⟨_, rfl⟩
  exact hS.goes hd (by simp [execOp, e1, Op.unary]) (.ab (!b))
 ·simp only
  rw [app_v]
  exact hS.goes hd (by simp [execOp, d_int hp, Op.unary, Op.intArith]) (.d _ _ (.sc _ rfl))
 ·rename_i m
  simp only
  rw [app_v]
  have e1 : a.eval x = .int .u64 m := by
   generalize a.eval x = v at hp
   cases hp with
   | d _ _ h => cases h; rfl
  exact hS.goes hd (by simp [execOp, e1, Op.unary, Op.intArith]) (.d _ _ (.sc _ rfl))
 ·exact hc.elim

theorem sim_nilCheck (hS : Hold B X w0 n S a w ι) {x : Operand} (hd : ∀ t, dst = some t → t < n) (hx : constOk x = true)
  (hc : (semNilCheck (S.ev x)).1) : Goes P B X w0 n ⟨dst, .nilCheck x, ty, pos, af, gd⟩ (S.app dst (semNilCheck (S.ev x)).2) a w := by
 have hp := hS.ev hx
 generalize S.ev x = p at hc hp
 unfold semNilCheck at hc ⊢
 split at hc
 ·simp only
  rw [app_v]
  generalize hv : a.eval x = v at hp
  cases hp with
  | d _ _ h =>
   cases h with
   | pt _ b off vals h1 h2 => exact hS.goes hd (v := .pointer (some ⟨b, off, none⟩)) (by simp only [execOp, hv]; rfl) (.d _ _ (.pt _ b off vals h1 h2))
 ·simp only
  rw [app_v]
  generalize hv : a.eval x = v at hp
  cases hp with
  | ptr _ _ _ _ b hι => exact hS.goes hd (v := .pointer (some ⟨b, _, none⟩)) (by simp only [execOp, hv]; rfl) (.ptr _ _ _ _ b hι)
 ·exact hc.elim

theorem sim_extract (hS : Hold B X w0 n S a w ι) {x : Operand} {i : Nat} (hd : ∀ t, dst = some t → t < n) (hx : constOk x = true)
  (hc : (semExtract (S.ev x) i).1) : Goes P B X w0 n ⟨dst, .extract x i, ty, pos, af, gd⟩ (S.app dst (semExtract (S.ev x) i).2) a w := by
 have hp := hS.ev hx
 generalize S.ev x = p at hc hp
 unfold semExtract at hc ⊢
 split at hc
 ·rename_i vs
  cases hi : vs[i]? with
  | none => rw [hi] at hc; exact hc.elim
  | some d =>
   simp only
   rw [app_v]
   generalize hva : a.eval x = va at hp
   cases hp with
   | tup cs arr hsz h =>
    have hlt : i < arr.size := by have := (List.getElem?_eq_some_iff.1 hi).1; omega
    have hai : arr[i]? = some arr[i] := Array.getElem?_eq_getElem hlt
    exact hS.goes hd (by simp [execOp, hva, Instr.extract, hai]) (h i d _ hi hai)
 ·rename_i vs
  cases hi : vs[i]? with
  | none => rw [hi] at hc; exact hc.elim
  | some d =>
   simp only
   rw [app_v]
   generalize hva : a.eval x = va at hp
   cases hp with
   | d _ _ hp =>
    cases hp with
    | tup cs arr hsz h =>
     have hlt : i < arr.size := by have := (List.getElem?_eq_some_iff.1 hi).1; omega
     have hai : arr[i]? = some arr[i] := Array.getElem?_eq_getElem hlt
     exact hS.goes hd (by simp [execOp, hva, Instr.extract, hai]) (.d _ _ (h i d _ hi hai))
 ·exact hc.elim
end hold
end Go.PS
namespace Go.PS
open Go

section hold
variable {P : Program} {B X : Nat → Prop} {w0 : W0} {w : World} {n : Nat} {S : St} {a : Act} {ι : Nat → Option Nat} {dst : Option Nat} {ty : TypeId} {pos : String} {af : Array Edge} {gd : Option (Nat × Bool)}

theorem bound_run {v : Value} {m : Int} {y : Nat} {code : BoundsCode} (hv : v = .int .i64 m) (h1 : 0 ≤ m) (h2 : m ≤ y) : (Instr.sliceBound v y code).run P w = .ok m.toNat w := by
 subst hv
 simp [Instr.sliceBound, asIntOf, h1, h2]

theorem bounds_run {len cap : Nat} {lo hi : Option Operand} {l h : Int} (hS : Hold B X w0 n S a w ι) (hlo : ∀ x, lo = some x → constOk x = true) (hhi : ∀ x, hi = some x → constOk x = true)
  (h1 : bndOf 0 (lo.map S.ev) = some l) (h2 : bndOf len (hi.map S.ev) = some h) (h0 : 0 ≤ l) (hlh : l ≤ h) (hhl : h ≤ len) (hlc : len ≤ cap) :
  (Instr.sliceBounds true len cap (lo.map a.eval) (hi.map a.eval) none).run P w = .ok (l.toNat, h.toNat, cap) w := by
 have e1 : ∀ x, lo = some x → a.eval x = .int .i64 l := by
  rintro x rfl
  have := hS.ev (hlo x rfl)
  simp only [Option.map_some] at h1
  generalize S.ev x = p at h1 this
  unfold bndOf at h1
  split at h1
  ·rename_i heq; cases heq
  ·rename_i heq; cases heq; cases h1; exact d_int this
  ·cases h1
 have e2 : ∀ x, hi = some x → a.eval x = .int .i64 h := by
  rintro x rfl
  have := hS.ev (hhi x rfl)
  simp only [Option.map_some] at h2
  generalize S.ev x = p at h2 this
  unfold bndOf at h2
  split at h2
  ·rename_i heq; cases heq
  ·rename_i heq; cases heq; cases h2; exact d_int this
  ·cases h2
 have rl : ∀ (c : BoundsCode) (x : Operand), lo = some x → (Instr.sliceBound (a.eval x) h.toNat c).run P w = .ok l.toNat w := fun c x hx => bound_run (e1 x hx) h0 (by omega)
 have rh : ∀ (c : BoundsCode) (x : Operand), hi = some x → (Instr.sliceBound (a.eval x) cap c).run P w = .ok h.toNat w := fun c x hx => bound_run (e2 x hx) (by omega) (by omega)
 cases lo with
 | none =>
  simp only [Option.map_none, bndOf, Option.some.injEq] at h1
  cases hi with
  | none =>
   simp only [Option.map_none, bndOf, Option.some.injEq] at h2
   simp [Instr.sliceBounds]
   omega
  | some y => simp [Instr.sliceBounds, rh _ y rfl]; omega
 | some x =>
  cases hi with
  | none =>
   simp only [Option.map_none, bndOf, Option.some.injEq] at h2
   have : h.toNat = len := by omega
   rw [this] at rl
   simp [Instr.sliceBounds, rl _ x rfl]
   omega
  | some y => simp [Instr.sliceBounds, rl _ x rfl, rh _ y rfl]

theorem sim_slice (hS : Hold B X w0 n S a w ι) {T : TypeId} {x : Operand} {lo hi mx : Option Operand} (hd : ∀ t, dst = some t → t < n) (hx : constOk x = true)
  (hlo : ∀ x, lo = some x → constOk x = true) (hhi : ∀ x, hi = some x → constOk x = true) (hmx : ∀ x, mx = some x → constOk x = true)
  (hc : (semSlice (tyi P T) (P.cellsOf (tyi P T).elem) (S.ev x) (lo.map S.ev) (hi.map S.ev) (mx.map S.ev)).1) :
  Goes P B X w0 n ⟨dst, .slice T x lo hi mx, ty, pos, af, gd⟩ (S.app dst (semSlice (tyi P T) (P.cellsOf (tyi P T).elem) (S.ev x) (lo.map S.ev) (hi.map S.ev) (mx.map S.ev)).2) a w := by
 have hp := hS.ev hx
 unfold semSlice at hc ⊢
 split at hc
 case h_2 => exact hc.elim
 rename_i len l hlen hl
 split at hc
 ·rename_i h hh hm
  have hmn : mx = none := by cases mx <;> first | rfl | cases hm
  subst hmn
  obtain ⟨hk, hne, h0, hlh, hhl, hok⟩ := hc
  simp only [hlen, hl, hh, Option.map_none]
  rw [app_v]
  have hu := kind1 hk
  have hsz' := sizeOf_ne (P := P) (u := (tyi P T).elem) hne w
  have run : ∀ (base : Option Addr) (cap : Nat), a.eval x = .slice base len cap → len ≤ cap →
    (execOp a.eval ⟨dst, .slice T x lo hi none, ty, pos, af, gd⟩).run P w = .ok (.value (.slice (if cap = l.toNat then base else base.map (·.add (l.toNat * P.cellsOf (tyi P T).elem))) (h.toNat - l.toNat) (cap - l.toNat))) w := by
   intro base cap hv hlc
   have hb := bounds_run (P := P) hS hlo hhi hl hh h0 hlh hhl hlc
   simp [execOp, Instr.sliceAt, Instr.slice, run_underlying hu, hv, hb, hsz']
  generalize hva : a.eval x = va at hp
  generalize S.ev x = p at hp hlen hok
  cases hp with
  | d d0 _ hd0 =>
   cases hd0 with
   | slnil base cap =>
    simp only [lenPV, List.length_nil, Option.some.injEq] at hlen
    subst hlen
    have e1 : l.toNat = 0 := by omega
    have e2 : h.toNat = 0 := by omega
    refine hS.goes hd (run base cap hva (by omega)) ?_
    rw [e1, e2]
    exact .d _ _ (.slnil _ _)
   | sl xs b off cap sz hl' hcap hsz vals hv hat =>
    simp only [lenPV, Option.some.injEq] at hlen
    subst hlen
    refine hS.goes hd (run _ cap hva hl') ?_
    by_cases he : l = h
    ·subst he
     simp only [subPV, Nat.sub_self]
     rw [List.drop_eq_nil_of_le (by simp; omega)]
     exact .d _ _ (.slnil _ _)
    ·have hcl : cap ≠ l.toNat := by omega
     have hs : sz = P.cellsOf (tyi P T).elem := by
      have h1 : l.toNat < xs.length := by omega
      rw [← hok _ (List.getElem_mem h1)]; exact (hsz _ (List.getElem_mem h1)).symm
     rw [if_neg hcl]
     simp only [subPV, Option.map_some, add_at]
     have hlen2 : ((xs.take h.toNat).drop l.toNat).length = h.toNat - l.toNat := by simp; omega
     have hget : ∀ (i : Nat) d, ((xs.take h.toNat).drop l.toNat)[i]? = some d → xs[l.toNat + i]? = some d := by
      intro i d hi
      rw [List.getElem?_drop, List.getElem?_take] at hi
      split at hi
      ·exact hi
      ·cases hi
     have := D.At.sl (w := w) (X := ownX ι X) ((xs.take h.toNat).drop l.toNat) b (off + l.toNat * sz) (cap - l.toNat) sz (by rw [hlen2]; omega) (by omega)
      (fun d hd => hsz d (List.mem_of_mem_take (List.mem_of_mem_drop hd))) (fun i j => vals (l.toNat + i) j)
      (fun i d j c hi hj => by
       have := hv (l.toNat + i) d j c (hget i d hi) hj
       rw [show off + l.toNat * sz + i * sz + j = off + (l.toNat + i) * sz + j by rw [Nat.add_mul]; omega]
       exact this)
      (fun i d j c hi hj => hat (l.toNat + i) d j c (hget i d hi) hj)
     rw [hlen2] at this
     rw [← hs]
     exact .d _ _ this
   | _ => simp [lenPV] at hlen
  | ref o sz off len' cap capr b hι hl' hcc hm hss =>
   simp only [lenPV, Option.some.injEq] at hlen
   subst hlen
   simp only [subOk] at hok
   refine hS.goes hd (run _ capr hva hl') ?_
   simp only [subPV]
   by_cases he : capr = l.toNat
   ·rw [if_pos he]
    have e1 : h.toNat - l.toNat = 0 := by omega
    have e2 : cap - l.toNat = 0 := by omega
    have e3 : capr - l.toNat = 0 := by omega
    rw [e1, e2, e3]
    exact .ref0 _ _ _ _
   ·rw [if_neg he]
    simp only [Option.map_some, add_at]
    have := PV.At.ref (w := w) (X := X) o sz (off + l.toNat) (h.toNat - l.toNat) (cap - l.toNat) (capr - l.toNat) b hι (by omega) (by omega) (by omega)
     (by rw [← hss]; congr 1; omega)
    rw [Nat.add_mul] at this
    rw [← hok]; exact this
  | ref0 o sz off base =>
   simp only [lenPV, Option.some.injEq] at hlen
   subst hlen
   have e1 : l.toNat = 0 := by omega
   have e2 : h.toNat = 0 := by omega
   refine hS.goes hd (run base 0 hva (by omega)) ?_
   rw [e1, e2, if_pos rfl]
   exact .ref0 _ _ _ _
  | nilS =>
   simp only [lenPV, Option.some.injEq] at hlen
   subst hlen
   have e1 : l.toNat = 0 := by omega
   have e2 : h.toNat = 0 := by omega
   refine hS.goes hd (run none 0 hva (by omega)) ?_
   rw [e1, e2, if_pos rfl]
   exact .nilS
  | z0 base =>
   simp only [lenPV, Option.some.injEq] at hlen
   subst hlen
   have e1 : l.toNat = 0 := by omega
   have e2 : h.toNat = 0 := by omega
   refine hS.goes hd (run base 0 hva (by omega)) ?_
   rw [e1, e2, if_pos rfl]
   exact .z0 _
  | _ => simp [lenPV] at hlen
 ·rename_i h m hh hm
  obtain ⟨hk, hne, hhs, rfl, rfl, rfl⟩ := hc
  simp only [hlen, hl, hh, hm]
  rw [app_v]
  have hu := kind1 hk
  have hsz' := sizeOf_ne (P := P) (u := (tyi P T).elem) hne w
  cases mx with
  | none => cases hm
  | some z =>
   cases hi with
   | none => simp at hhs
   | some y =>
    simp only [Option.map_some, Option.some.injEq] at hm hh
    have ez : a.eval z = .int .i64 0 := by
     have := hS.ev (hmx z rfl); rw [hm] at this; exact d_int this
    have ey : a.eval y = .int .i64 0 := by
     have := hS.ev (hhi y rfl)
     generalize S.ev y = p at hh this
     unfold bndOf at hh
     split at hh
     ·rename_i heq; cases heq
     ·rename_i heq; cases heq; cases hh; exact d_int this
     ·cases hh
    have el : ∀ x, lo = some x → a.eval x = .int .i64 0 := by
     rintro x rfl
     have := hS.ev (hlo x rfl)
     simp only [Option.map_some] at hl
     generalize S.ev x = p at hl this
     unfold bndOf at hl
     split at hl
     ·rename_i heq; cases heq
     ·rename_i heq; cases heq; cases hl; exact d_int this
     ·cases hl
    have hsl : ∃ base len' cap, a.eval x = .slice base len' cap := by
     generalize a.eval x = va at hp
     generalize S.ev x = p at hp hlen
     cases hp with
     | d _ _ h => cases h <;> first | exact ⟨_, _, _, rfl⟩ | simp [lenPV] at hlen
     | ref => exact ⟨_, _, _, rfl⟩
     | ref0 => exact ⟨_, _, _, rfl⟩
     | nilS => exact ⟨_, _, _, rfl⟩
     | z0 => exact ⟨_, _, _, rfl⟩
     | _ => simp [lenPV] at hlen
    obtain ⟨base, len', cap, hv⟩ := hsl
    have b0 : ∀ (y : Nat) (c : BoundsCode), (Instr.sliceBound (.int .i64 0) y c).run P w = .ok 0 w := fun y c => bound_run (m := 0) rfl (by omega) (by omega)
    refine hS.goes (v := .slice base 0 0) hd ?_ (.z0 base)
    cases lo with
    | none => simp [execOp, Instr.sliceAt, Instr.slice, Instr.sliceBounds, run_underlying hu, hv, ez, ey, b0, hsz']
    | some x' => simp [execOp, Instr.sliceAt, Instr.slice, Instr.sliceBounds, run_underlying hu, hv, ez, ey, b0, hsz', el x' rfl]
 ·exact hc.elim
end hold
end Go.PS
namespace Go.PS
open Go

section hold
variable {P : Program} {B X : Nat → Prop} {w0 : W0} {w : World} {n : Nat} {S : St} {a : Act} {ι : Nat → Option Nat} {dst : Option Nat} {ty : TypeId} {pos : String} {af : Array Edge} {gd : Option (Nat × Bool)}

theorem run_guard_ints (op : BinOp) (t : TypeId) (x y : Operand) (p q : Int) : (eqGuard op t x y (.int .i64 p) (.int .i64 q)).run P w = .ok () w := by
 cases op <;> simp [eqGuard]
theorem run_guard_bools (op : BinOp) (t : TypeId) (x y : Operand) (p q : Bool) : (eqGuard op t x y (.bool p) (.bool q)).run P w = .ok () w := by
 cases op <;> simp [eqGuard]

theorem run_bin_ints (op : BinOp) (t : TypeId) (p q : Int) (hc : (binI op p q).1) : (binOp op t (.int .i64 p) (.int .i64 q)).run P w = .ok (binI op p q).2 w := by
 cases op
 case and => rfl
 case or => rfl
 case xor => rfl
 case andNot => rfl
 all_goals (simp [binI] at hc ⊢; simp [binOp, Op.intArith, Op.intDiv, Op.intCmp, Op.shift, IntKind.bits, hc])
 all_goals first
  | rfl
  | (intro h; exact absurd h (by omega))
  | (rw [Bool.eq_iff_iff]; simp)

theorem run_shift_u64 (op : BinOp) (t : TypeId) (p q : Int) (ho : op = .shl ∨ op = .shr) (hc : (binI op p q).1) : (binOp op t (.int .i64 p) (.int .u64 q)).run P w = .ok (binI op p q).2 w := by
 rcases ho with rfl | rfl
 all_goals (simp [binI] at hc ⊢; simp [binOp, Op.shift, IntKind.bits])
 all_goals (intro h; exact absurd h (by omega))

theorem run_bin_u64 (op : BinOp) (t : TypeId) (p q : Int) (hc : (binU op p q).1) : (binOp op t (.int .u64 p) (.int .u64 q)).run P w = .ok (binU op p q).2 w := by
 cases op
 case and => rfl
 case or => rfl
 case xor => rfl
 case andNot => rfl
 case quo => exact hc.elim
 case rem => exact hc.elim
 all_goals (simp [binU] at hc ⊢; simp [binOp, Op.intArith, Op.intCmp, Op.shift, IntKind.bits, hc])
 all_goals first
  | rfl
  | (intro h; exact absurd h (by omega))
  | (rw [Bool.eq_iff_iff]; simp)
theorem run_shiftU (op : BinOp) (t : TypeId) (p q : Int) (ho : op = .shl ∨ op = .shr) (hc : (binU op p q).1) : (binOp op t (.int .u64 p) (.int .i64 q)).run P w = .ok (binU op p q).2 w := by
 rcases ho with rfl | rfl
 all_goals (simp [binU] at hc ⊢; simp [binOp, Op.shift, IntKind.bits])
 all_goals (intro h; exact absurd h (by omega))
theorem run_guard_k (op : BinOp) (t : TypeId) (x y : Operand) (k j : IntKind) (p q : Int) : (eqGuard op t x y (.int k p) (.int j q)).run P w = .ok () w := by
 cases op <;> simp [eqGuard]
theorem binU_one (op : BinOp) (p q : Int) : (binU op p q).2.oneCell' = true := by cases op <;> rfl
theorem d_intK {k : IntKind} {m : Int} {v : Value} (h : PV.At w ι X (.d (.sc (.int k m))) v) : v = .int k m := by
 cases h with
 | d _ _ h => cases h; rfl
theorem binI_one (op : BinOp) (p q : Int) : (binI op p q).2.oneCell' = true := by cases op <;> rfl

theorem PV.At.agg {p : PV} {v : Value} {cs : List PV} (h : PV.At w ι X p v) (hc : p.agg? = some cs) :
  ∃ arr, v = .agg arr ∧ arr.size = cs.length ∧ ∀ (j : Nat) q u, cs[j]? = some q → arr[j]? = some u → PV.At w ι X q u := by
 cases h with
 | ag cs' arr hsz hone h => cases hc; exact ⟨arr, rfl, hsz, h⟩
 | d x v h =>
  cases h with
  | ag cs' arr hsz hone h =>
   cases hc
   refine ⟨arr, rfl, by simpa using hsz, fun j q u hq hu => ?_⟩
   rw [List.getElem?_map] at hq
   cases hj : cs'[j]? with
   | none => rw [hj] at hq; cases hq
   | some d => rw [hj] at hq; cases hq; exact .d _ _ (h j d u hj hu)
  | _ => cases hc
 | _ => cases hc

theorem run_eqFields {xs ys : Array Value} {cs ds : List PV} (hx : xs.size = cs.length) (hy : ys.size = ds.length)
  (h1 : ∀ (j : Nat) q u, cs[j]? = some q → xs[j]? = some u → PV.At w ι X q u) (h2 : ∀ (j : Nat) q u, ds[j]? = some q → ys[j]? = some u → PV.At w ι X q u) (d : Nat) :
  ∀ (fs : List Field) (k : Nat) (t : Bool), plainFields P k fs = true → fs.length + k = cs.length → eqCells (cs.drop k) (ds.drop k) = some t →
   (Op.eqFields (d + 1) xs ys fs).run P w = .ok t w := by
 intro fs
 induction fs with
 | nil =>
  intro k t _ hl he
  have hk : cs.drop k = [] := by apply List.drop_eq_nil_of_le; simp at hl; omega
  rw [hk] at he
  cases hd : ds.drop k with
  | nil => rw [hd] at he; cases he; rfl
  | cons q r => rw [hd] at he; simp [eqCells] at he
 | cons f fs ih =>
  intro k t hp hl he
  simp only [plainFields, Bool.and_eq_true, bne_iff_ne, ne_eq, beq_iff_eq] at hp
  obtain ⟨⟨⟨hn, ho⟩, hu⟩, hp⟩ := hp
  have hk : k < cs.length := by simp at hl; omega
  have hck : cs.drop k = cs[k] :: cs.drop (k + 1) := List.drop_eq_getElem_cons hk
  rw [hck] at he
  cases hdd : ds.drop k with
  | nil =>
   rw [hdd] at he
   cases hq : cs[k] <;> rw [hq] at he <;> simp [eqCells] at he
  | cons q r =>
   have hkd : k < ds.length := by
    have := congrArg List.length hdd
    simp at this; omega
   have hdk : ds.drop k = ds[k] :: ds.drop (k + 1) := List.drop_eq_getElem_cons hkd
   rw [hdk] at he
   have ha := h1 k cs[k] xs[k] (List.getElem?_eq_getElem hk) (Array.getElem?_eq_getElem (by omega))
   have hb := h2 k ds[k] ys[k] (List.getElem?_eq_getElem hkd) (Array.getElem?_eq_getElem (by omega))
   have hxk : xs[k]? = some xs[k] := Array.getElem?_eq_getElem (by omega)
   have hyk : ys[k]? = some ys[k] := Array.getElem?_eq_getElem (by omega)
   have hagg : (isAgg f.type).run P w = .ok false w := by
    simp only [isAgg]
    cases hq : P.underlying f.type with
    | none => rw [hq] at hu; cases hu
    | some dd =>
     rw [hq] at hu
     simp only [Sem.run_bind, run_underlying hq, Result.andThen_ok]
     cases dd <;> simp at hu <;> rfl
   have px : (part f.type xs f.offset).run P w = .ok xs[k] w := by simp [part, hagg, ho, hxk]
   have py : (part f.type ys f.offset).run P w = .ok ys[k] w := by simp [part, hagg, ho, hyk]
   have core : ∀ (r1 : Bool) (t' : Bool), (Op.equalIn (d + 1) f.type xs[k] ys[k]).run P w = .ok r1 w → eqCells (cs.drop (k + 1)) (ds.drop (k + 1)) = some t' → t = (r1 && t') →
     (Op.eqFields (d + 1) xs ys (f :: fs)).run P w = .ok t w := by
    intro r1 t' hr he' ht
    simp only [Op.eqFields, ne_eq, hn, not_false_eq_true, if_true, Sem.run_bind, px, py, Result.andThen_ok, hr]
    cases r1
    ·simp [ht]
    ·simp only [Bool.not_true, Bool.false_eq_true, if_false]
     rw [ih (k + 1) t' hp (by simp at hl ⊢; omega) he', ht]; simp
   generalize cs[k] = pk at he ha
   generalize ds[k] = qk at he hb
   generalize xs[k] = xk at ha core
   generalize ys[k] = yk at hb core
   unfold eqCells at he
   split at he
   ·rename_i h; cases h
   ·rename_i p1 r1 p2 r2 e1 e2
    cases e1; cases e2
    cases hq : eqCells (cs.drop (k + 1)) (ds.drop (k + 1)) with
    | none => rw [hq] at he; cases he
    | some t' =>
     rw [hq] at he; cases he
     have := d_int ha; subst this
     have := d_int hb; subst this
     refine core _ t' ?_ hq rfl
     cases hq2 : P.underlying f.type with
     | none => rw [hq2] at hu; cases hu
     | some dd =>
      rw [hq2] at hu
      cases dd <;> simp at hu
      rw [run_equalIn_int w d f.type .i64 _ _ _ hq2]
      congr 1
   ·cases he

theorem peq_of {t : TypeId} (h : (tyi P t).peq = true) : P.underlying t = some (.struct (P.fieldsOf t)) ∧ plainFields P 0 (P.fieldsOf t).toList = true ∧ P.stoodInHeld t = false ∧ P.eqGuardType P.depth t = false ∧ (P.fieldsOf t).size = P.cellsOf t := by
 simp only [tyi, Program.fieldsOf] at h ⊢
 cases hu : P.underlying t with
 | none => rw [hu] at h; simp at h
 | some d => rw [hu] at h; cases d <;> simp at h ⊢; exact ⟨h.1.1.1, h.1.1.2, h.1.2, h.2⟩

theorem run_equalIn_nil (w : World) (d : Nat) (T : TypeId) (base : Option Addr) (len cap : Nat) {e : TypeId} (hu : P.underlying T = some (.slice e)) :
  (Op.equalIn (d + 1) T (.slice base len cap) (.slice none 0 0)).run P w = .ok base.isNone w := by
 cases base <;> simp [Op.equalIn, run_underlying hu]
theorem nilEq_at {p r : PV} {v : Value} (h : nilEq p = some r) (hp : PV.At w ι X p v) :
  ∃ base len cap, v = .slice base len cap ∧ PV.At w ι X r (.bool base.isNone) ∧ (r = .ab ∨ ∃ b, r = .bool b) := by
 cases hp with
 | nilS => simp only [nilEq, Option.some.injEq] at h; subst h; exact ⟨_, _, _, rfl, .d _ _ (.sc _ rfl), .inr ⟨_, rfl⟩⟩
 | z0 base => simp only [nilEq, Option.some.injEq] at h; subst h; exact ⟨_, _, _, rfl, .ab _, .inl rfl⟩
 | ref0 o sz off base => simp only [nilEq, Option.some.injEq, and_self, if_true] at h; subst h; exact ⟨_, _, _, rfl, .ab _, .inl rfl⟩
 | ref o sz off len cap capr b hι hl hc hm hs =>
  simp only [nilEq, Option.some.injEq] at h
  split at h
  ·subst h; exact ⟨_, _, _, rfl, .ab _, .inl rfl⟩
  ·subst h; exact ⟨_, _, _, rfl, .d _ _ (.sc _ rfl), .inr ⟨_, rfl⟩⟩
 | d x v h' =>
  cases h' with
  | slnil base cap => simp only [nilEq, Option.some.injEq, List.isEmpty_nil, if_true] at h; subst h; exact ⟨_, _, _, rfl, .ab _, .inl rfl⟩
  | sl l b off cap sz hl hc hsz vals hv hh =>
   simp only [nilEq, Option.some.injEq] at h
   split at h
   ·subst h; exact ⟨_, _, _, rfl, .ab _, .inl rfl⟩
   ·subst h; exact ⟨_, _, _, rfl, .d _ _ (.sc _ rfl), .inr ⟨_, rfl⟩⟩
  | sc v hv => simp [nilEq] at h
  | ag => simp [nilEq] at h
  | tup => simp [nilEq] at h
  | pt => simp [nilEq] at h
  | fn => simp [nilEq] at h
 | ptr => simp [nilEq] at h
 | ag => simp [nilEq] at h
 | tup => simp [nilEq] at h
 | fn => simp [nilEq] at h
 | unk => simp [nilEq] at h
 | und => simp [nilEq] at h
 | ab => simp [nilEq] at h
 | mp => simp [nilEq] at h
 | ifp => simp [nilEq] at h
theorem notPV_at {r : PV} {b : Bool} (h : PV.At w ι X r (.bool b)) (hsh : r = .ab ∨ ∃ b, r = .bool b) : PV.At w ι X (notPV r) (.bool (!b)) := by
 rcases hsh with rfl | ⟨c, rfl⟩
 ·exact .ab _
 ·cases h with
  | d _ _ h => cases h; exact .d _ _ (.sc _ rfl)

theorem sim_convert (hS : Hold B X w0 n S a w ι) {T U : TypeId} {x : Operand} (hd : ∀ t, dst = some t → t < n) (hx : constOk x = true)
  (hc : (semConvert (P.underlying T) (P.underlying U) (S.ev x)).1) : Goes P B X w0 n ⟨dst, .convert T U x, ty, pos, af, gd⟩ (S.app dst (semConvert (P.underlying T) (P.underlying U) (S.ev x)).2) a w := by
 have hp := hS.ev hx
 generalize S.ev x = p at hc hp
 cases h1 : P.underlying T with
 | none => rw [h1] at hc; exact hc.elim
 | some d1 =>
  cases h2 : P.underlying U with
  | none => rw [h1, h2] at hc; exact hc.elim
  | some d2 =>
   rw [h1, h2] at hc
   unfold semConvert at hc ⊢
   split at hc
   ·rename_i k j m e1 e2
    cases e1; cases e2
    simp only
    rw [app_v]
    have e1 := d_intK hp
    exact hS.goes (v := .int k (k.wrap m)) hd (by simp only [execOp, e1, convert, Sem.run_bind, run_underlying h1, run_underlying h2, Result.andThen_ok]; rfl) (.d _ _ (.sc _ rfl))
   ·exact hc.elim
theorem sim_bin (hS : Hold B X w0 n S a w ι) {op : BinOp} {T T' : TypeId} {x y : Operand} (hd : ∀ t, dst = some t → t < n) (hx : constOk x = true) (hy : constOk y = true)
  (hc : (semBin op (tyi P T) (S.ev x) (S.ev y)).1) : Goes P B X w0 n ⟨dst, .binOp op T x y T', ty, pos, af, gd⟩ (S.app dst (semBin op (tyi P T) (S.ev x) (S.ev y)).2) a w := by
 have hp := hS.ev hx
 have hq := hS.ev hy
 generalize S.ev x = p at hc hp
 generalize S.ev y = q at hc hq
 unfold semBin at hc ⊢
 split at hc
 ·cases hn : nilEq p with
  | none => rw [hn] at hc; exact hc.elim
  | some r =>
   rw [hn] at hc
   obtain ⟨hk, ho⟩ := hc
   simp only
   rw [app_v]
   obtain ⟨base, len, cap, e1, hr, hsh⟩ := nilEq_at hn hp
   have e2 : a.eval y = .slice none 0 0 := by
    generalize a.eval y = v at hq
    cases hq; rfl
   have he := run_equalIn_nil (P := P) w 9999 T base len cap (kind1 hk)
   have hg : (eqGuard op T x y (.slice base len cap) (.slice none 0 0)).run P w = .ok () w := by rcases ho with rfl | rfl <;> simp [eqGuard]
   rcases ho with rfl | rfl
   ·refine hS.goes (v := .bool base.isNone) hd ?_ (by simpa using hr)
    simp [execOp, e1, e2, hg, binOp, Op.equal, Op.maxDepth, he]
   ·refine hS.goes (v := .bool (!base.isNone)) hd ?_ (by simpa using notPV_at hr hsh)
    simp [execOp, e1, e2, hg, binOp, Op.equal, Op.maxDepth, he]
 ·rename_i m k
  simp only
  rw [app_v]
  have e1 := d_int hp
  have e2 := d_int hq
  exact hS.goes hd (by simp only [execOp, e1, e2, Sem.run_bind, run_guard_ints, Result.andThen_ok, run_bin_ints op T m k hc, Sem.run_pure]) (.d _ _ (.sc _ (binI_one op m k)))
 ·rename_i m k
  obtain ⟨ho, hc⟩ := hc
  simp only
  rw [app_v]
  have e1 := d_int hp
  have e2 : a.eval y = .int .u64 k := by
   generalize a.eval y = v at hq
   cases hq with
   | d _ _ h => cases h; rfl
  have hg : (eqGuard op T x y (.int .i64 m) (.int .u64 k)).run P w = .ok () w := by rcases ho with rfl | rfl <;> simp [eqGuard]
  exact hS.goes hd (by simp only [execOp, e1, e2, Sem.run_bind, hg, Result.andThen_ok, run_shift_u64 op T m k ho hc, Sem.run_pure]) (.d _ _ (.sc _ (binI_one op m k)))
 ·rename_i m k
  simp only
  rw [app_v]
  have e1 := d_intK hp
  have e2 := d_intK hq
  exact hS.goes hd (by simp only [execOp, e1, e2, Sem.run_bind, run_guard_k, Result.andThen_ok, run_bin_u64 op T m k hc, Sem.run_pure]) (.d _ _ (.sc _ (binU_one op m k)))
 ·rename_i m k
  obtain ⟨ho, hc⟩ := hc
  simp only
  rw [app_v]
  have e1 := d_intK hp
  have e2 := d_intK hq
  exact hS.goes hd (by simp only [execOp, e1, e2, Sem.run_bind, run_guard_k, Result.andThen_ok, run_shiftU op T m k ho hc, Sem.run_pure]) (.d _ _ (.sc _ (binU_one op m k)))
 ·rename_i m k
  obtain ⟨hk, ho⟩ := hc
  simp only
  rw [app_v]
  have e1 := d_bool hp
  have e2 := d_bool hq
  have hu := kind6 hk
  have he := run_equalIn_bool' (P := P) w 9999 T m k hu
  rw [show (m == k) = decide (m = k) by cases m <;> cases k <;> rfl] at he
  rcases ho with rfl | rfl
  ·refine hS.goes (v := .bool (decide (m = k))) hd ?_ (.d _ _ (.sc _ rfl))
   simp [execOp, e1, e2, run_guard_bools, binOp, Op.equal, Op.maxDepth, he]
  ·refine hS.goes (v := .bool (!decide (m = k))) hd ?_ (.d _ _ (.sc _ rfl))
   simp [execOp, e1, e2, run_guard_bools, binOp, Op.equal, Op.maxDepth, he]
 ·cases hcs : p.agg? with
  | none => rw [hcs] at hc; exact hc.elim
  | some cs =>
   cases hds : q.agg? with
   | none => rw [hcs, hds] at hc; exact hc.elim
   | some ds =>
    rw [hcs, hds] at hc
    simp only at hc ⊢
    cases ht : eqCells cs ds with
    | none => rw [ht] at hc; exact hc.elim
    | some t =>
     rw [ht] at hc
     obtain ⟨hpe, hln, ho⟩ := hc
     simp only
     rw [app_v]
     obtain ⟨xs, e1, hxs, h1⟩ := hp.agg hcs
     obtain ⟨ys, e2, hys, h2⟩ := hq.agg hds
     obtain ⟨hu, hpf, hst, hg, hsz⟩ := peq_of hpe
     have hr := run_eqFields (P := P) hxs hys h1 h2 9998 (P.fieldsOf T).toList 0 t hpf (by simp only [tyi] at hln; simp; omega) (by simpa using ht)
     have he := run_equalIn_struct (P := P) w 9999 T xs ys hu hst
     rw [hr] at he
     rcases ho with rfl | rfl
     ·refine hS.goes (v := .bool t) hd ?_ (.d _ _ (.sc _ rfl))
      simp [execOp, e1, e2, run_eqGuard_agg w _ T _ _ xs ys hg, binOp, Op.equal, Op.maxDepth, he]
     ·refine hS.goes (v := .bool (!t)) hd ?_ (.d _ _ (.sc _ rfl))
      simp [execOp, e1, e2, run_eqGuard_agg w _ T _ _ xs ys hg, binOp, Op.equal, Op.maxDepth, he]

end hold
end Go.PS
namespace Go.PS
open Go

section hold
variable {P : Program} {B X : Nat → Prop} {w0 : W0} {w : World} {n : Nat} {S : St} {a : Act} {ι : Nat → Option Nat} {dst : Option Nat} {ty : TypeId} {pos : String} {af : Array Edge} {gd : Option (Nat × Bool)}

theorem Hold.dead (h : Hold B X w0 n S a w ι) {t : Nat} (hd : S.objs t = .dead) : ι t = none := by
 have := h.objs t
 rw [hd] at this
 cases this; assumption

theorem Hold.alloc (h : Hold B X w0 n S a w ι) {t : Nat} (hd : S.objs t = .dead) (w' : World) (hos : w'.os = w.os) (htape : w'.tape = w.tape) (hout : w'.output = w.output)
  (hsize : w'.heap.size = w.heap.size + 1) (hold : ∀ b, b < w.heap.size → w'.heap[b]? = w.heap[b]?) (ob : Ob)
  (hob : Ob.At w' (upd t (some w.heap.size) ι) X t ob) :
  Hold B X w0 n { env := S.env, objs := upd t ob S.objs } a w' (upd t (some w.heap.size) ι) :=
 h.change none t ob (upd t (some w.heap.size) ι) w' hos htape hout (by omega) (fun o' hne => if_neg hne) (fun b hb => by rw [h.dead hd] at hb; cases hb) (fun b hb => by cases hb) (fun b hb _ => hold b hb)
  (fun b hb => by rw [upd, if_pos rfl] at hb; cases hb; exact ⟨.inr (.inl (Nat.le_refl _)), by omega⟩) hob

theorem PV.At.alloc (h : Hold B X w0 n S a w ι) {t : Nat} (hd : S.objs t = .dead) {w' : World}
  (hold : ∀ b, b < w.heap.size → w'.heap[b]? = w.heap[b]?) {p : PV} {v : Value} (hp : PV.At w ι X p v) : PV.At w' (upd t (some w.heap.size) ι) X p v := by
 have hn := h.dead hd
 refine hp.move (fun o b hb => ?_) (fun b hb => ?_) (fun b hb _ => hold b hb)
 ·have hne : o ≠ t := fun he => by rw [he, hn] at hb; cases hb
  exact ⟨by rw [upd, if_neg hne]; exact hb, by simp only [bsz, hold b (h.free o b hb).2]⟩
 ·rcases hb with hb | ⟨o, hb⟩
  ·exact .inl (.inl hb)
  ·by_cases he : o = t
   ·subst he; rw [upd, if_pos rfl] at hb; cases hb; exact .inr (Nat.le_refl _)
   ·rw [upd, if_neg he] at hb; exact .inl (.inr ⟨o, hb⟩)

theorem D.At.alloc (h : Hold B X w0 n S a w ι) {t : Nat} (hd : S.objs t = .dead) {w' : World}
  (hold : ∀ b, b < w.heap.size → w'.heap[b]? = w.heap[b]?) {p : D} {v : Value} (hp : D.At w (ownX ι X) p v) : D.At w' (ownX (upd t (some w.heap.size) ι) X) p v := by
 have := PV.At.alloc h hd hold (.d _ _ hp)
 cases this; assumption

theorem goes_new (hS : Hold B X w0 n S a w ι) {t : Nat} {o : Oper} (hdst : o.dst = some t) (ht : t < n) (hd : S.objs t = .dead) (cs : List PV) (arr : Array Value) (T : TypeId)
  (hr : (execOp a.eval o).run P w = .ok (.value (.pointer (some ⟨w.heap.size, 0, none⟩))) (w.alloc (.cells arr T)))
  (hsz : arr.size = cs.length) (hone : ∀ (j : Nat) (v : Value), arr[j]? = some v → v.oneCell' = true) (hat : ∀ (j : Nat) p v, cs[j]? = some p → arr[j]? = some v → PV.At w ι X p v) :
  Goes P B X w0 n o (S.app o.dst { val := .ptr t 0 0 0, wr := [(t, .cells cs)] }) a w := by
 have hold : ∀ b, b < w.heap.size → (w.alloc (.cells arr T)).heap[b]? = w.heap[b]? := fun b hb => heap_alloc_old w _ hb
 have hob : Ob.At (w.alloc (.cells arr T)) (upd t (some w.heap.size) ι) X t (.cells cs) :=
  .cells cs w.heap.size arr T (if_pos rfl) (heap_alloc_new w _) (Nat.le_of_eq hsz.symm) hone fun j p v hj hv => (hat j p v hj hv).alloc hS hd hold
 have h1 := hS.alloc hd (w.alloc (.cells arr T)) rfl rfl rfl (by simp) hold _ hob
 refine ⟨_, _, upd t (some w.heap.size) ι, .inl hr, ?_⟩
 have h2 := h1.put (dst := o.dst) (x := .ptr t 0 0 0) (v := .pointer (some ⟨w.heap.size, 0 * 0 + 0, none⟩)) (fun u hu => by rw [hdst] at hu; cases hu; exact ht)
  (.ptr t 0 0 0 w.heap.size (if_pos rfl))
 rw [hdst] at h2 ⊢
 exact h2

theorem sim_alloc (hS : Hold B X w0 n S a w ι) {T : TypeId} (hd : ∀ t, dst = some t → t < n) (hc : (semAlloc (tyi P T) S.objs dst).1) :
  Goes P B X w0 n ⟨dst, .alloc T, ty, pos, af, gd⟩ (S.app dst (semAlloc (tyi P T) S.objs dst).2) a w := by
 unfold semAlloc at hc ⊢
 cases dst with
 | none => exact hc.elim
 | some t =>
  obtain ⟨hz, hdead⟩ := hc
  obtain ⟨i, z, hi, hiz, hzs, hz1, hne, hzz⟩ := zok_zero hz
  refine goes_new (P := P) (o := ⟨some t, .alloc T, ty, pos, af, gd⟩) hS rfl (hd t rfl) hdead _ z.cells T ?_ (by simp [hzz]) (fun j v hj => ?_) (fun j p v hj hv => ?_)
  ·simp [execOp, Instr.alloc, zeroValue, typeInfo, hi, hiz, newVar, newRow]
  ·exact hz1 v (by simpa using Array.mem_of_getElem? hj)
  ·rw [hzz, List.getElem?_map, Array.getElem?_toList, hv] at hj
   cases hj
   exact cellPV_at (hz1 v (by simpa using Array.mem_of_getElem? hv))

theorem sim_box (hS : Hold B X w0 n S a w ι) {T : TypeId} {x : Operand} (hd : ∀ t, dst = some t → t < n) (hx : constOk x = true) (hc : (semBox S.objs dst (S.ev x).cells?).1) :
  Goes P B X w0 n ⟨dst, .box T x, ty, pos, af, gd⟩ (S.app dst (semBox S.objs dst (S.ev x).cells?).2) a w := by
 have hp := hS.ev hx
 unfold semBox at hc ⊢
 cases dst with
 | none => exact hc.elim
 | some t =>
  cases hcs : (S.ev x).cells? with
  | none => rw [hcs] at hc; exact hc.elim
  | some cs =>
   rw [hcs] at hc
   obtain ⟨h1, h2, h3⟩ := hp.cells hcs
   exact goes_new (P := P) (o := ⟨some t, .box T x, ty, pos, af, gd⟩) hS rfl (hd t rfl) hc _ (a.eval x).cells T (by simp [execOp, Instr.box, newVar, newRow]) h1 h2 h3

theorem getElem?_splice {α : Type} (cs : List α) (c : Nat) (xs : List α) (h : c + xs.length ≤ cs.length) (j : Nat) :
  (splice cs c xs)[j]? = if j < c then cs[j]? else if j < c + xs.length then xs[j - c]? else cs[j]? := by
 unfold splice
 rw [List.append_assoc, List.getElem?_append]
 simp only [List.length_take, Nat.min_eq_left (show c ≤ cs.length by omega)]
 split
 ·rw [List.getElem?_take_of_lt (by assumption)]
 ·rw [List.getElem?_append]
  split
  ·rw [if_pos (by omega)]
  ·rw [if_neg (by omega), List.getElem?_drop]
   congr 1; omega

theorem setRow_size (w : World) (g : Nat) (cs : Array Value) : (w.setRow g cs).heap.size = w.heap.size := by simp [World.setRow]

theorem arr_splice (arr : Array Value) (p : Nat) (vs : List Value) (h : p + vs.length ≤ arr.size) (j : Nat) :
  ((arr.toList.take p ++ vs ++ arr.toList.drop (p + vs.length)).toArray)[j]? = if j < p then arr[j]? else if j < p + vs.length then vs[j - p]? else arr[j]? := by
 have := getElem?_splice arr.toList p vs (by simpa using h) j
 simp only [splice] at this
 rw [List.getElem?_toArray, this]
 simp only [Array.getElem?_toList]

theorem size_splice (arr : Array Value) (p : Nat) (vs : List Value) (h : p + vs.length ≤ arr.size) : ((arr.toList.take p ++ vs ++ arr.toList.drop (p + vs.length)).toArray).size = arr.size := by
 simp; omega

theorem goes_store (hS : Hold B X w0 n S a w ι) {o : Oper} (hdst : o.dst = none) {q b : Nat} {arr : Array Value} {T : TypeId} (hlive : S.objs q ≠ .gone) (hι : ι q = some b) (hb : w.heap[b]? = some (.cells arr T (0, 0)))
  (p : Nat) (vs : List Value) (hlen : p + vs.length ≤ arr.size) (ob : Ob)
  (hr : (execOp a.eval o).run P w = .ok .skip (w.setRow b (arr.toList.take p ++ vs ++ arr.toList.drop (p + vs.length)).toArray))
  (hob : Ob.At (w.setRow b (arr.toList.take p ++ vs ++ arr.toList.drop (p + vs.length)).toArray) ι X q ob) :
  Goes P B X w0 n o (S.app o.dst { val := .unk, wr := [(q, ob)] }) a w := by
 have h1 := hS.change (some b) q ob ι (w.setRow b (arr.toList.take p ++ vs ++ arr.toList.drop (p + vs.length)).toArray) rfl rfl rfl (by simp) (fun _ _ => rfl) (fun _ h => h)
  (fun b' hb' => by
   cases hb'
   exact ⟨⟨q, hι⟩, fun o' hne hg ho' => hne (hS.inj o' q b hg hlive ho' hι), by simp only [bsz, hb, setRow_heap w b arr _ T (0, 0) hb, size_splice arr p vs hlen]⟩)
  (fun b' _ hne => setRow_other w b b' _ (fun he => hne (by rw [he])))
  (fun b' hb' => ⟨.inl ⟨hb', hlive⟩, by rw [setRow_size]; exact (hS.free q b' hb').2⟩) hob
 refine ⟨undef, _, ι, .inr ⟨hr, rfl⟩, ?_⟩
 rw [hdst]
 exact h1

theorem PV.At.store (_hS : Hold B X w0 n S a w ι) {q b : Nat} {arr arr' : Array Value} {T : TypeId} (hι : ι q = some b) (hb : w.heap[b]? = some (.cells arr T (0, 0))) (hsz : arr'.size = arr.size)
  {p : PV} {v : Value} (hp : PV.At w ι X p v) : PV.At (w.setRow b arr') ι X p v := by
 refine hp.move (fun o b' hb' => ⟨hb', ?_⟩) (fun b' hb' => .inl hb') (fun b' hlt hne => setRow_other w b b' _ (fun he => hne (.inr ⟨q, he ▸ hι⟩)))
 by_cases he : b' = b
 ·subst he; simp only [bsz, hb, setRow_heap w b' arr _ T (0, 0) hb, hsz]
 ·simp only [bsz, setRow_other w b b' _ he]

theorem D.At.store (hS : Hold B X w0 n S a w ι) {q b : Nat} {arr arr' : Array Value} {T : TypeId} (hι : ι q = some b) (hb : w.heap[b]? = some (.cells arr T (0, 0))) (hsz : arr'.size = arr.size)
  {p : D} {v : Value} (hp : D.At w (ownX ι X) p v) : D.At (w.setRow b arr') (ownX ι X) p v := by
 have := PV.At.store hS hι hb hsz (.d _ _ hp)
 cases this; assumption

theorem mapM_asD {vs : List PV} {ds : List D} (h : vs.mapM PV.asD = some ds) : ds.length = vs.length ∧ ∀ (j : Nat) d, ds[j]? = some d → ∃ p, vs[j]? = some p ∧ p.asD = some d := by
 induction vs generalizing ds with
 | nil => simp at h; subst h; simp
 | cons p vs ih =>
  simp only [List.mapM_cons] at h
  cases hp : p.asD with
  | none => rw [hp] at h; cases h
  | some d =>
   rw [hp] at h
   cases hr : vs.mapM PV.asD with
   | none => rw [hr] at h; cases h
   | some r =>
    rw [hr] at h; cases h
    obtain ⟨h1, h2⟩ := ih hr
    refine ⟨by simp [h1], fun j e he => ?_⟩
    cases j with
    | zero => simp at he; subst he; exact ⟨p, rfl, hp⟩
    | succ j => simp at he; obtain ⟨q, hq, hqe⟩ := h2 j e he; exact ⟨q, by simpa using hq, hqe⟩

theorem PV.At.asD {p : PV} {v : Value} {d : D} (h : PV.At w ι X p v) (hd : p.asD = some d) : D.At w (ownX ι X) d v := by
 cases h with
 | d x v h => cases hd; exact h
 | nilS => cases hd; exact .slnil none 0
 | z0 base => cases hd; exact .slnil base 0
 | _ => cases hd

theorem mkD_cells {x : D} {cs : List D} (hl : cs.length = x.cells.length) (h1 : ∀ d, cs = [d] → d.cells = [d]) : (mkD x cs).cells = cs := by
 unfold mkD
 split
 ·rfl
 ·rename_i hx
  have : cs.length = 1 := by rw [hl]; cases x <;> first | rfl | exact absurd rfl (hx _)
  match cs, this with
  | [d], _ => exact h1 d rfl

theorem sim_store (hS : Hold B X w0 n S a w ι) {T : TypeId} {x y : Operand} (hdn : dst = none) (hx : constOk x = true) (hy : constOk y = true)
  (hc : (semStore (tyi P T) S.objs (S.ev x) (S.ev y).cells?).1) : Goes P B X w0 n ⟨dst, .store T x y, ty, pos, af, gd⟩ (S.app dst (semStore (tyi P T) S.objs (S.ev x) (S.ev y).cells?).2) a w := by
 have hp := hS.ev hx
 have hq := hS.ev hy
 generalize S.ev x = p at hc hp
 unfold semStore at hc ⊢
 split at hc
 ·rename_i o sz i c vs hcs
  obtain ⟨hvl, hok, hc⟩ := hc
  simp only
  obtain ⟨q1, q2, q3⟩ := hq.cells hcs
  generalize hva : a.eval x = va at hp
  cases hp with
  | ptr o sz i c b hι =>
   have hob := hS.objs o
   generalize hgo : S.objs o = ob at hob hc
   have hone' : ∀ v ∈ (a.eval y).cells.toList, v.oneCell' = true := fun v hv => by
    obtain ⟨j, hj⟩ := List.getElem?_of_mem hv
    exact q2 j v (by simpa using hj)
   have hlen : (a.eval y).cells.toList.length = vs.length := by simpa using q1
   have run : ∀ (arr : Array Value) (T' : TypeId), w.heap[b]? = some (.cells arr T' (0, 0)) → i * sz + c + vs.length ≤ arr.size →
     (execOp a.eval ⟨dst, .store T x y, ty, pos, af, gd⟩).run P w = .ok .skip (w.setRow b (arr.toList.take (i * sz + c) ++ (a.eval y).cells.toList ++ arr.toList.drop (i * sz + c + (a.eval y).cells.toList.length)).toArray) := by
    intro arr T' hb hl
    have hst := run_storeCells_at P b (i * sz + c) T' (a.eval y).cells.toList 0 arr w hb (by rw [hlen]; omega) hone'
    have hcs' : (a.eval y).cells.size = P.cellsOf T := by simp [tyi] at hvl; omega
    simp only [execOp, Instr.storeAt, hva, Instr.sureAddr, Sem.run_bind, Sem.run_pure, Result.andThen_ok, storeVar, run_sizeOf' hok, hcs', ne_eq, not_true_eq_false, if_false, hst, Nat.add_zero]
   cases hob with
   | dead h => exact hc.elim
   | gone => exact hc.elim
   | imap => exact hc.elim
   | row0 sz' h => rw [h] at hι; cases hι
   | cells cs b' arr T' hι' hb hsz hone h =>
    rw [hι] at hι'; cases hι'
    simp only [stOb] at hc ⊢
    have run := run arr T' hb
    generalize i * sz + c = r at hc run ⊢
    have hl := hc
    have hl' : r + vs.length ≤ arr.size := by omega
    have hls : r + (a.eval y).cells.toList.length ≤ arr.size := by rw [hlen]; exact hl'
    refine goes_store (P := P) (o := ⟨dst, .store T x y, ty, pos, af, gd⟩) hS hdn (by rw [hgo]; simp) hι hb r (a.eval y).cells.toList hls _ (run hl') ?_
    refine .cells _ b _ T' hι (setRow_heap w b arr _ T' (0, 0) hb) ?_ (fun j v hj => ?_) (fun j p v hj hv => ?_)
    ·rw [size_splice _ _ _ hls]; simp [splice]; omega
    ·rw [arr_splice _ _ _ hls] at hj
     split at hj
     ·exact hone j v hj
     ·split at hj
      ·exact hone' v (List.mem_of_getElem? hj)
      ·exact hone j v hj
    ·refine PV.At.store hS hι hb (size_splice _ _ _ hls) ?_
     rw [getElem?_splice cs r vs hl] at hj
     rw [arr_splice _ _ _ hls] at hv
     simp only [hlen] at hv
     split at hj
     ·rename_i hlt; rw [if_pos hlt] at hv; exact h j p v hj hv
     ·rename_i hlt; rw [if_neg hlt] at hv
      split at hj
      ·rename_i hlt2; rw [if_pos hlt2] at hv
       exact q3 (j - r) p v hj (by simpa using hv)
      ·rename_i hlt2; rw [if_neg hlt2] at hv; exact h j p v hj hv
   | row sz' l b' arr T' hι' hb hsz hcl hone h =>
    rw [hι] at hι'; cases hι'
    simp only [stOb] at hc ⊢
    cases hds : vs.mapM PV.asD with
    | none => rw [hds] at hc; exact hc.elim
    | some ds =>
     rw [hds] at hc
     obtain ⟨rfl, hi, hl⟩ := hc
     have hli : l[i]? = some l[i] := List.getElem?_eq_getElem hi
     simp only [hli, Option.getD_some] at hl ⊢
     obtain ⟨hdl, hda⟩ := mapM_asD hds
     have hcs : l[i].cells.length = sz := hcl _ (List.getElem_mem hi)
     have hroom : i * sz + sz ≤ arr.size := by
      have : (i + 1) * sz ≤ l.length * sz := Nat.mul_le_mul_right _ hi
      rw [Nat.add_mul] at this; omega
     have hl' : i * sz + c + vs.length ≤ arr.size := by omega
     have hls : i * sz + c + (a.eval y).cells.toList.length ≤ arr.size := by rw [hlen]; exact hl'
     have hat : ∀ (j : Nat) d v, ds[j]? = some d → (a.eval y).cells[j]? = some v → D.At w (ownX ι X) d v := fun j d v hj hv => by
      obtain ⟨p, hp, hpd⟩ := hda j d hj
      exact (q3 j p v hp hv).asD hpd
     have hmk : (mkD l[i] (splice l[i].cells c ds)).cells = splice l[i].cells c ds := by
      refine mkD_cells (by simp [splice]; omega) (fun d hd => ?_)
      by_cases hz : ds.length = 0
      · -- nothing stored
       have h0 : l[i].cells = [d] := by
        rw [← hd]; unfold splice
        have : ds = [] := List.eq_nil_of_length_eq_zero hz
        subst this
        simp
       have hdi : l[i].cells[0]? = some d := by rw [h0]; rfl
       have hs1 : sz = 1 := by rw [← hcs, h0]; rfl
       have hlt : i * sz + 0 < arr.size := by omega
       exact (h i _ 0 d _ hli hdi (Array.getElem?_eq_getElem hlt)).single (hone _ _ (Array.getElem?_eq_getElem hlt))
      ·have hlen1 : (splice l[i].cells c ds).length = 1 := by rw [hd]; rfl
       have hs1 : l[i].cells.length = 1 := by simp [splice] at hlen1; omega
       have hc0 : c = 0 := by omega
       have hd1 : ds.length = 1 := by omega
       subst hc0
       have : ds = [d] := by
        rw [← hd]; unfold splice
        have : l[i].cells.drop (0 + ds.length) = [] := List.drop_eq_nil_of_le (by omega)
        rw [this]; simp
       have hv0 : (a.eval y).cells[0]? = some ((a.eval y).cells[0]'(by omega)) := Array.getElem?_eq_getElem _
       exact (hat 0 d _ (by rw [this]; rfl) hv0).single (q2 0 _ hv0)
     refine goes_store (P := P) (o := ⟨dst, .store T x y, ty, pos, af, gd⟩) hS hdn (by rw [hgo]; simp) hι hb (i * sz + c) (a.eval y).cells.toList hls _ (run arr T' hb hl') ?_
     refine .row sz _ b _ T' hι (setRow_heap w b arr _ T' (0, 0) hb) ?_ (fun d hd => ?_) (fun j v hj => ?_) (fun i' d j e v hi' hj hv => ?_)
     ·rw [size_splice _ _ _ hls]; simpa using hsz
     ·rcases List.mem_or_eq_of_mem_set hd with hd | rfl
      ·exact hcl d hd
      ·rw [hmk]; simp [splice]; omega
     ·rw [arr_splice _ _ _ hls] at hj
      split at hj
      ·exact hone j v hj
      ·split at hj
       ·exact hone' v (List.mem_of_getElem? hj)
       ·exact hone j v hj
     ·refine D.At.store hS hι hb (size_splice _ _ _ hls) ?_
      rw [arr_splice _ _ _ hls] at hv
      rw [hlen] at hv
      by_cases hii : i' = i
      ·subst hii
       rw [List.getElem?_set_self hi] at hi'
       cases hi'
       rw [hmk, getElem?_splice _ c ds hl] at hj
       split at hj
       ·rw [if_pos (by omega)] at hv; exact h i' _ j e v hli hj hv
       ·rw [if_neg (by omega)] at hv
        split at hj
        ·rw [if_pos (by omega)] at hv
         exact hat (j - c) e v hj (by rw [← Array.getElem?_toList]; rw [show i' * sz + j - (i' * sz + c) = j - c by omega] at hv; exact hv)
        ·rw [if_neg (by omega)] at hv; exact h i' _ j e v hli hj hv
      ·rw [List.getElem?_set_ne (Ne.symm hii)] at hi'
       have hjs : j < sz := by
        have := (List.getElem?_eq_some_iff.1 hj).1
        rw [hcl d (List.mem_of_getElem? hi')] at this; exact this
       have hout : i' * sz + j < i * sz + c ∨ i * sz + c + vs.length ≤ i' * sz + j := by
        rcases Nat.lt_or_gt_of_ne hii with hlt | hgt
        ·left
         have : (i' + 1) * sz ≤ i * sz := Nat.mul_le_mul_right _ hlt
         rw [Nat.add_mul] at this; omega
        ·right
         have : (i + 1) * sz ≤ i' * sz := Nat.mul_le_mul_right _ hgt
         rw [Nat.add_mul] at this; omega
       rcases hout with ho | ho
       ·rw [if_pos ho] at hv; exact h i' d j e v hi' hj hv
       ·rw [if_neg (by omega), if_neg (by omega)] at hv; exact h i' d j e v hi' hj hv
 ·exact hc.elim
end hold
end Go.PS
