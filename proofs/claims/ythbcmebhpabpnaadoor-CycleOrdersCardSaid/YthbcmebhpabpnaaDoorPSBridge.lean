/- From the readings of a law's arguments to data, and from a law's contract to its row. -/
import Derived.KernelRfl
import Derived.Test.YthbcmebhpabpnaaDoorPSFam
import Derived.ProofKit
import Derived.Carry
import Derived.Deep.Slices
import Derived.SizedLaws
import Derived.OpenShut
set_option linter.unusedSimpArgs false
set_option linter.unusedVariables false
namespace Go.PS
open Go Go.ChangeShapes Go.WideShapes Go.RowKit Go.Deep

def SeqOk (f : TypeId → List D → Prop) : List TypeId → List D → Prop
 | [], cs => cs = []
 | t :: ts, cs => ∃ p r, cs = p ++ r ∧ f t p ∧ SeqOk f ts r

def CellsOk (P : Program) : Nat → TypeId → List D → Prop
 | 0, _, _ => False
 | n + 1, t, cs => match P.underlying t with
  | some (.int k) => ∃ m, cs = [.sc (.int k m)] ∧ (Lit.int k m).wf = true
  | some .bool => ∃ b, cs = [.sc (.bool b)]
  | some (.struct fs) => SeqOk (CellsOk P n) (fs.toList.map (·.type)) cs
  | some (.array k e) => SeqOk (CellsOk P n) (List.replicate k e) cs
  | some (.slice e) => ∃ l : List D, cs = [.sl l] ∧ l.length * P.bytesOf e ≤ reachBytes ∧ ∀ d ∈ l, ∃ es, d = D.ofCells (tyi P e).agg es ∧ es.length = P.cellsOf e ∧ CellsOk P n e es
  | _ => False

def structTys (P : Program) (t : TypeId) : Option (List TypeId) := match P.underlying t with
 | some (.struct fs) => some (fs.toList.map (·.type))
 | _ => none
def sliceTy (P : Program) (t : TypeId) : Option TypeId := match P.underlying t with
 | some (.slice e) => some e
 | _ => none
theorem cells_struct {P : Program} {n : Nat} {t : TypeId} {ts : List TypeId} {cs : List D} (hu : structTys P t = some ts) (h : CellsOk P (n + 1) t cs) : SeqOk (CellsOk P n) ts cs := by
 unfold structTys at hu
 split at hu
 ·rename_i fs hf
  cases hu
  simp only [CellsOk, hf] at h
  exact h
 ·cases hu
theorem cells_slice {P : Program} {n : Nat} {t e : TypeId} {cs : List D} (hu : sliceTy P t = some e) (h : CellsOk P (n + 1) t cs) :
  ∃ l : List D, cs = [.sl l] ∧ ∀ d ∈ l, ∃ es, d = D.ofCells (tyi P e).agg es ∧ es.length = P.cellsOf e ∧ CellsOk P n e es := by
 unfold sliceTy at hu
 split at hu
 ·rename_i e' hf
  cases hu
  simp only [CellsOk, hf] at h
  obtain ⟨l, h1, _, h2⟩ := h
  exact ⟨l, h1, h2⟩
 ·cases hu
theorem map_of {α : Type} {f : α → D} : ∀ {l : List D}, (∀ d ∈ l, ∃ a, d = f a) → ∃ ys : List α, l = ys.map f
 | [], _ => ⟨[], rfl⟩
 | d :: l, h => by
  obtain ⟨a, rfl⟩ := h d (by simp)
  obtain ⟨ys, rfl⟩ := map_of (l := l) (fun e he => h e (List.mem_cons_of_mem _ he))
  exact ⟨a :: ys, rfl⟩

def layoutEnd (P : Program) : Nat → List Field → Option Nat
 | k, [] => some k
 | k, f :: fs => if f.offset = k then layoutEnd P (k + P.cellsOf f.type) fs else none

def plainTy (P : Program) : Nat → TypeId → Bool
 | 0, _ => false
 | n + 1, t => match P.underlying t with
  | some (.int _) => P.cellsOf t == 1 && !(tyi P t).agg
  | some .bool => P.cellsOf t == 1 && !(tyi P t).agg
  | some (.struct fs) => fs.toList.all (fun f => plainTy P n f.type) && layoutEnd P 0 fs.toList == some (P.cellsOf t) && (tyi P t).agg
  | some (.slice e) => plainTy P n e && P.cellsOf t == 1 && !(tyi P t).agg && P.cellsOf e != 0
  | some (.array k e) => plainTy P n e && k * P.cellsOf e == P.cellsOf t && (tyi P t).agg
  | _ => false

theorem plainTy_cells {P : Program} : ∀ {n : Nat} {t : TypeId}, plainTy P n t = true → (tyi P t).agg = false → P.cellsOf t = 1 := by
 intro n t h ha
 cases n with
 | zero => simp [plainTy] at h
 | succ n =>
  simp only [plainTy] at h
  split at h <;> simp_all

theorem layoutEnd_le {P : Program} : ∀ (fs : List Field) (k e : Nat), layoutEnd P k fs = some e → k ≤ e := by
 intro fs
 induction fs with
 | nil => intro k e h; simp [layoutEnd] at h; omega
 | cons f fs ih =>
  intro k e h
  simp only [layoutEnd] at h
  split at h
  ·have := ih _ _ h; omega
  ·cases h

section reads
variable {H : Type} {enc : TypeId × Value → H} {P : Program} {w : World} {base : Nat} {spare : Nat → Bool} {held : Bool}

abbrev noX : Nat → Prop := fun _ => False

def Fit (w : World) (ds : List D) (cs : List Value) : Prop := ds.length = cs.length ∧ ∀ (j : Nat) d v, ds[j]? = some d → cs[j]? = some v → D.At w noX d v ∧ v.oneCell' = true

theorem Fit.nil : Fit w [] [] := ⟨rfl, by simp⟩
theorem Fit.append {ds es : List D} {cs vs : List Value} (h1 : Fit w ds cs) (h2 : Fit w es vs) : Fit w (ds ++ es) (cs ++ vs) := by
 refine ⟨by simp [h1.1, h2.1], fun j d v hj hv => ?_⟩
 rw [List.getElem?_append] at hj hv
 rw [h1.1] at hj
 split at hj
 ·rename_i hlt; rw [if_pos hlt] at hv; exact h1.2 j d v hj hv
 ·rename_i hlt; rw [if_neg hlt] at hv; exact h2.2 _ d v hj hv

theorem Fit.cells {es : List D} {vs : List Value} (h : Fit w es vs) : ∀ e ∈ es, e.cells = [e] := by
 intro e he
 obtain ⟨j, hj⟩ := List.getElem?_of_mem he
 have hl := (List.getElem?_eq_some_iff.1 hj).1
 have hv : vs[j]? = some (vs[j]'(by rw [← h.1]; exact hl)) := List.getElem?_eq_getElem _
 obtain ⟨h1, h2⟩ := h.2 j e _ hj hv
 exact h1.single h2

theorem ofCells_cells' {agg : Bool} {es : List D} {vs : List Value} (h : Fit w es vs) (ha : agg = false → es.length = 1) : (D.ofCells agg es).cells = es := by
 unfold D.ofCells
 cases agg with
 | true => rfl
 | false =>
  match es, ha rfl, h with
  | [e], _, h => exact h.cells e (by simp)

def Sized (P : Program) (t : TypeId) (d : DataW H) : Prop := (d.weights P t).all (· ≤ reachBytes) = true
theorem sized_all {e : TypeId} : ∀ {l : List (DataW H)}, (DataW.weightsAll P e l).all (· ≤ reachBytes) = true → ∀ d ∈ l, Sized P e d
 | [], _, d, hd => by cases hd
 | x :: l, h, d, hd => by
  simp only [DataW.weightsAll, List.all_append, Bool.and_eq_true] at h
  rcases List.mem_cons.1 hd with rfl | hd
  ·exact h.1
  ·exact sized_all h.2 d hd
theorem sized_each {ts : List TypeId} {ds : List (DataW H)} (h : (DataW.weightsEach P ts ds).all (· ≤ reachBytes) = true) {j : Nat} {t : TypeId} {d : DataW H} (ht : ts[j]? = some t) (hd : ds[j]? = some d) : Sized P t d :=
 List.all_eq_true.2 fun n hn => List.all_eq_true.1 h n (DataW.weights_mem_each ht hd n hn)
theorem fields_fit {n m : Nat} {cs : List Value} (ih : ∀ (t : TypeId) (cs : List Value) x, plainTy P n t = true → DataW.trod enc P w base spare held m t cs = some x → Sized P t x.1 → ∃ ds, CellsOk P n t ds ∧ Fit w ds cs) :
  ∀ (fs : List Field) (k e : Nat), layoutEnd P k fs = some e → e = cs.length → (∀ f ∈ fs, plainTy P n f.type = true) →
   (∀ f ∈ fs, ∃ x, DataW.trod enc P w base spare held m f.type ((cs.drop f.offset).take (P.cellsOf f.type)) = some x ∧ Sized P f.type x.1) →
   ∃ ds, SeqOk (CellsOk P n) (fs.map (·.type)) ds ∧ Fit w ds (cs.drop k) := by
 intro fs
 induction fs with
 | nil =>
  intro k e h he _ _
  simp only [layoutEnd, Option.some.injEq] at h
  refine ⟨[], rfl, ?_⟩
  rw [List.drop_eq_nil_of_le (by omega)]
  exact Fit.nil
 | cons f fs ihf =>
  intro k e h he hp hr
  simp only [layoutEnd] at h
  split at h
  ·rename_i hoff
   have hle := layoutEnd_le _ _ _ h
   obtain ⟨x, hx, hxs⟩ := hr f (by simp)
   obtain ⟨d1, g1, g2⟩ := ih f.type _ x (hp f (by simp)) hx hxs
   obtain ⟨d2, g3, g4⟩ := ihf _ _ h he (fun f' hf' => hp f' (List.mem_cons_of_mem _ hf')) (fun f' hf' => hr f' (List.mem_cons_of_mem _ hf'))
   refine ⟨d1 ++ d2, ⟨d1, d2, rfl, g1, g3⟩, ?_⟩
   rw [hoff] at g2
   have := g2.append g4
   rw [← List.drop_drop, List.take_append_drop] at this
   exact this
  ·cases h

theorem parts_fit {n m : Nat} {cs : List Value} {e : TypeId} (ih : ∀ (t : TypeId) (cs : List Value) x, plainTy P n t = true → DataW.trod enc P w base spare held m t cs = some x → Sized P t x.1 → ∃ ds, CellsOk P n t ds ∧ Fit w ds cs) (hp : plainTy P n e = true) :
  ∀ (k j : Nat), (k + j) * P.cellsOf e = cs.length →
   (∀ i, i < k + j → ∃ x, DataW.trod enc P w base spare held m e ((cs.drop (i * P.cellsOf e)).take (P.cellsOf e)) = some x ∧ Sized P e x.1) →
   ∃ ds, SeqOk (CellsOk P n) (List.replicate k e) ds ∧ Fit w ds (cs.drop (j * P.cellsOf e)) := by
 intro k
 induction k with
 | zero =>
  intro j h _
  refine ⟨[], rfl, ?_⟩
  rw [List.drop_eq_nil_of_le (by rw [Nat.zero_add] at h; omega)]
  exact Fit.nil
 | succ k ihk =>
  intro j h hr
  obtain ⟨x, hx, hxs⟩ := hr j (by omega)
  obtain ⟨d1, g1, g2⟩ := ih e _ x hp hx hxs
  obtain ⟨d2, g3, g4⟩ := ihk (j + 1) (by rw [← h]; congr 1; omega) (fun i hi => hr i (by omega))
  refine ⟨d1 ++ d2, ⟨d1, d2, rfl, g1, g3⟩, ?_⟩
  have := g2.append g4
  rw [Nat.add_mul, Nat.one_mul, ← List.drop_drop, List.take_append_drop] at this
  exact this
theorem trod_fit : ∀ (n : Nat) (t : TypeId) (m : Nat) (cs : List Value) x, plainTy P n t = true → DataW.trod enc P w base spare held m t cs = some x → Sized P t x.1 → ∃ ds, CellsOk P n t ds ∧ Fit w ds cs := by
 intro n
 induction n with
 | zero => intro t m cs x h; simp [plainTy] at h
 | succ n ih =>
  intro t m cs x hp h hsz
  simp only [plainTy] at hp
  simp only [CellsOk]
  split at hp
  ·rename_i k hu
   simp only [hu]
   obtain ⟨q, rfl, rfl, hw⟩ := DataW.trod_int hu h
   refine ⟨[.sc (.int k q)], ⟨q, rfl, hw⟩, rfl, fun j d v hj hv => ?_⟩
   rcases j with _ | j <;> simp at hj hv
   subst hj; subst hv
   exact ⟨.sc _ rfl, rfl⟩
  ·rename_i hu
   simp only [hu]
   obtain ⟨b, rfl, rfl⟩ := DataW.trod_bool hu h
   refine ⟨[.sc (.bool b)], ⟨b, rfl⟩, rfl, fun j d v hj hv => ?_⟩
   rcases j with _ | j <;> simp at hj hv
   subst hj; subst hv
   exact ⟨.sc _ rfl, rfl⟩
  ·rename_i fs hu
   simp only [hu]
   simp only [Bool.and_eq_true, List.all_eq_true, beq_iff_eq] at hp
   obtain ⟨xs, m', rfl, hxe, hlen, hxl, hf⟩ := DataW.trod_struct hu h
   obtain ⟨ds, g1, g2⟩ := fields_fit (cs := cs) (fun t cs x => ih t m' cs x) fs.toList 0 _ hp.1.2 hlen.symm hp.1.1 (fun f hfm => by
    obtain ⟨i, hi⟩ := List.getElem?_of_mem hfm
    have hi' : fs[i]? = some f := by simpa using hi
    have hil : i < xs.length := by rw [hxl]; exact (Array.getElem?_eq_some_iff.1 hi').1
    refine ⟨xs[i], (hf i f hi').trans (List.getElem?_eq_getElem hil), ?_⟩
    rw [Sized, hxe] at hsz
    simp only [DataW.weights, hu] at hsz
    exact sized_each hsz (j := i) (by rw [List.getElem?_map, hi]; rfl) (by rw [List.getElem?_map, List.getElem?_eq_getElem hil]; rfl))
   exact ⟨ds, g1, by simpa using g2⟩
  ·rename_i e hu
   simp only [hu]
   simp only [Bool.and_eq_true, beq_iff_eq, Bool.not_eq_true', bne_iff_ne, ne_eq] at hp
   obtain ⟨⟨⟨hpe, _⟩, _⟩, hne⟩ := hp
   rcases open_slice hu h with ⟨rfl, rfl⟩ | ⟨a, len, cap, q, m', Dd, Pl, rfl, hb, hl, hm, hq, hxe, hi⟩
   ·refine ⟨[.sl []], ⟨[], rfl, by simp, by simp⟩, rfl, fun j d v hj hv => ?_⟩
    rcases j with _ | j <;> simp at hj hv
    subst hj; subst hv
    exact ⟨.slnil _ _, rfl⟩
   ·have hlq : len ≤ q := by rw [hq]; split <;> omega
    rw [Sized, hxe] at hsz
    simp only [DataW.weights, hu, List.all_cons, Bool.and_eq_true, List.all_append, decide_eq_true_eq, List.length_map, List.length_range] at hsz
    have hszl : len * P.bytesOf e ≤ reachBytes := Nat.le_trans (Nat.mul_le_mul_right _ (Nat.le_add_right _ _)) hsz.1
    have hex : ∀ i, i < len → ∃ es vs, CellsOk P n e es ∧ Fit w es vs ∧ vs.length = P.cellsOf e ∧ ∀ j, j < P.cellsOf e → w.cell? ((a.add (i * P.cellsOf e)).add j) = vs[j]? := by
     intro i hil
     obtain ⟨cs', hc, ht⟩ := hi i (by omega)
     obtain ⟨es, h1, h2⟩ := ih e m' cs' _ hpe ht (sized_all hsz.2.1 _ (List.mem_map.2 ⟨i, List.mem_range.2 hil, rfl⟩))
     obtain ⟨_, hcl, hat⟩ := World.cells?_some hc
     exact ⟨es, cs', h1, h2, hcl, hat⟩
    have hall : ∃ l : List (List D), l.length = len ∧ ∀ i es, l[i]? = some es → ∃ vs, CellsOk P n e es ∧ Fit w es vs ∧ vs.length = P.cellsOf e ∧ ∀ j, j < P.cellsOf e → w.cell? ((a.add (i * P.cellsOf e)).add j) = vs[j]? := by
     have : ∀ k, k ≤ len → ∃ l : List (List D), l.length = k ∧ ∀ i es, l[i]? = some es → ∃ vs, CellsOk P n e es ∧ Fit w es vs ∧ vs.length = P.cellsOf e ∧ ∀ j, j < P.cellsOf e → w.cell? ((a.add (i * P.cellsOf e)).add j) = vs[j]? := by
      intro k
      induction k with
      | zero => intro _; exact ⟨[], rfl, by simp⟩
      | succ k ihk =>
       intro hk
       obtain ⟨l, h1, h2⟩ := ihk (by omega)
       obtain ⟨es, vs, h3⟩ := hex k (by omega)
       refine ⟨l ++ [es], by simp [h1], fun i es' hi' => ?_⟩
       rw [List.getElem?_append] at hi'
       split at hi'
       ·exact h2 i es' hi'
       ·rename_i hge
        have hik : i - l.length = 0 := by
         have := (List.getElem?_eq_some_iff.1 hi').1; simp at this; omega
        rw [hik] at hi'
        simp at hi'
        subst hi'
        have : i = k := by omega
        subst this
        exact ⟨vs, h3⟩
     exact this len (Nat.le_refl _)
    obtain ⟨l, hll, hlat⟩ := hall
    have hagg : (tyi P e).agg = false → P.cellsOf e = 1 := plainTy_cells hpe
    refine ⟨[.sl (l.map (D.ofCells (tyi P e).agg))], ⟨_, rfl, by rw [List.length_map, hll]; exact hszl, fun d hd => ?_⟩, rfl, fun j d v hj hv => ?_⟩
    ·obtain ⟨es, hes, rfl⟩ := List.mem_map.1 hd
     obtain ⟨i, hi'⟩ := List.getElem?_of_mem hes
     obtain ⟨vs, h1, h2, h3, _⟩ := hlat i es hi'
     exact ⟨es, rfl, by rw [h2.1, h3], h1⟩
    ·rcases j with _ | j <;> simp at hj hv
     subst hj; subst hv
     refine ⟨?_, rfl⟩
     by_cases hz : len = 0
     ·subst hz
      have : l = [] := List.eq_nil_of_length_eq_zero hll
      subst this
      exact .slnil _ _
     · -- the address has no spot
      have h0 : a.spot = none := by
       obtain ⟨es, hes⟩ := get_some (l := l) (k := 0) (by omega)
       obtain ⟨vs, h1, h2, h3, h4⟩ := hlat 0 es hes
       have hc := h4 0 (by omega)
       have hv : vs[0]? = some (vs[0]'(by omega)) := List.getElem?_eq_getElem _
       rw [hv] at hc
       simp only [Nat.zero_mul] at hc
       unfold World.cell? at hc
       split at hc
       ·split at hc
        ·cases hc
        ·rename_i hs
         cases hsp : a.spot with
         | none => rfl
         | some s => simp [Addr.add, hsp] at hs
       ·cases hc
      obtain ⟨b, off, sp⟩ := a
      simp only at h0
      subst h0
      have hadd : ∀ i j, ((⟨b, off, none⟩ : Addr).add i).add j = ⟨b, off + i + j, none⟩ := fun i j => by rw [add_at, add_at]
      have := D.At.sl (w := w) (X := noX) (l.map (D.ofCells (tyi P e).agg)) b off cap (P.cellsOf e) (by simp [hll, hl]) hm (fun d hd => by
        obtain ⟨es, hes, rfl⟩ := List.mem_map.1 hd
        obtain ⟨i, hi'⟩ := List.getElem?_of_mem hes
        obtain ⟨vs, h1, h2, h3, _⟩ := hlat i es hi'
        rw [ofCells_cells' h2 (fun h => by rw [h2.1, h3]; exact hagg h), h2.1, h3])
       (fun i j => (w.cell? ⟨b, off + i * P.cellsOf e + j, none⟩).getD undef)
       (fun i d j c hi' hj => by
        rw [List.getElem?_map] at hi'
        cases hes : l[i]? with
        | none => rw [hes] at hi'; cases hi'
        | some es =>
         rw [hes] at hi'; cases hi'
         obtain ⟨vs, h1, h2, h3, h4⟩ := hlat i es hes
         rw [ofCells_cells' h2 (fun h => by rw [h2.1, h3]; exact hagg h)] at hj
         have hjl := (List.getElem?_eq_some_iff.1 hj).1
         rw [h2.1, h3] at hjl
         have hv : vs[j]? = some (vs[j]'(by omega)) := List.getElem?_eq_getElem _
         have hc := h4 j hjl
         rw [hadd, hv] at hc
         rw [hc]
         exact ⟨rfl, (h2.2 j c _ hj hv).2, fun h => h⟩)
       (fun i d j c hi' hj => by
        rw [List.getElem?_map] at hi'
        cases hes : l[i]? with
        | none => rw [hes] at hi'; cases hi'
        | some es =>
         rw [hes] at hi'; cases hi'
         obtain ⟨vs, h1, h2, h3, h4⟩ := hlat i es hes
         rw [ofCells_cells' h2 (fun h => by rw [h2.1, h3]; exact hagg h)] at hj
         have hjl := (List.getElem?_eq_some_iff.1 hj).1
         rw [h2.1, h3] at hjl
         have hv : vs[j]? = some (vs[j]'(by omega)) := List.getElem?_eq_getElem _
         have hc := h4 j hjl
         rw [hadd, hv] at hc
         rw [hc]
         exact (h2.2 j c _ hj hv).1)
      simp only [List.length_map, hll] at this
      exact this
  ·rename_i k e hu
   simp only [hu]
   simp only [Bool.and_eq_true, beq_iff_eq] at hp
   obtain ⟨xs, m', rfl, hxe, hlen, hxl, hf⟩ := DataW.trod_array hu h
   obtain ⟨ds, g1, g2⟩ := parts_fit (cs := cs) (fun t cs x => ih t m' cs x) hp.1.1 k 0 (by rw [Nat.add_zero, hp.1.2, hlen]) (fun i hi => by
    have hil : i < xs.length := by omega
    refine ⟨xs[i], (hf i (by omega)).trans (List.getElem?_eq_getElem hil), ?_⟩
    rw [Sized, hxe] at hsz
    simp only [DataW.weights, hu] at hsz
    exact sized_all hsz _ (List.mem_map.2 ⟨xs[i], List.getElem_mem hil, rfl⟩))
   exact ⟨ds, g1, by simpa using g2⟩
  ·cases hp

theorem okWide_array {r : Reach} {b0 : Nat} {t : TypeId} {v : Value} {k : Nat} {e : TypeId} (ht : P.underlying t = some (.array k e)) (h : Value.okWide P w r b0 t v) : ∃ cs, v = .agg cs ∧ cs.size = P.cellsOf t := by
 unfold Value.okWide at h
 rw [ht] at h
 obtain ⟨cs, h1, h2, _⟩ := h
 exact ⟨cs, h1, h2⟩
def ArgOk (P : Program) (t : TypeId) (x : D) : Prop := ∃ cs, CellsOk P 8 t cs ∧ x = D.ofCells (tyi P t).agg cs

theorem arg_fit {r : Reach} {b0 : Nat} {t : TypeId} {v : Value} {d : DataW H} {p : List MemPlace} (hp : plainTy P 8 t = true) (hv : Value.okWide P w r b0 t v) (h : DataW.Trod enc P w base spare held t v d p) (hsz : Sized P t d) :
  ∃ x, ArgOk P t x ∧ D.At w noX x v := by
 obtain ⟨fuel, hf⟩ := h
 obtain ⟨ds, h1, h2⟩ := trod_fit 8 t fuel _ _ hp hf hsz
 refine ⟨_, ⟨ds, h1, rfl⟩, ?_⟩
 replace hp : plainTy P (7 + 1) t = true := hp
 rw [plainTy] at hp
 split at hp
 ·rename_i k hu
  simp only [Bool.and_eq_true, beq_iff_eq, Bool.not_eq_true'] at hp
  obtain ⟨q, rfl⟩ := okWide_int hu hv
  have hl := h2.1
  match ds, hl, h2 with
  | [e], _, h2 => rw [hp.2]; exact (h2.2 0 e _ rfl rfl).1
 ·rename_i hu
  simp only [Bool.and_eq_true, beq_iff_eq, Bool.not_eq_true'] at hp
  obtain ⟨q, rfl⟩ := okWide_bool hu hv
  have hl := h2.1
  match ds, hl, h2 with
  | [e], _, h2 => rw [hp.2]; exact (h2.2 0 e _ rfl rfl).1
 ·rename_i fs hu
  simp only [Bool.and_eq_true] at hp
  obtain ⟨cs, rfl, hsz⟩ := okWide_struct hu hv
  rw [hp.2]
  have hl : ds.length = cs.size := by have := h2.1; simpa [Value.cells] using this
  refine .ag ds cs hl.symm (fun j v hj => ?_) (fun j e v hj hv => ?_)
  ·have hjl := (Array.getElem?_eq_some_iff.1 hj).1
   exact (h2.2 j _ v (List.getElem?_eq_getElem (by omega)) (by simpa [Value.cells] using hj)).2
  ·exact (h2.2 j e v hj (by simpa [Value.cells] using hv)).1
 ·rename_i e hu
  simp only [Bool.and_eq_true, beq_iff_eq, Bool.not_eq_true'] at hp
  obtain ⟨a, len, cap, rfl⟩ := okWide_slice hu hv
  have hl := h2.1
  match ds, hl, h2 with
  | [e], _, h2 => rw [hp.1.2]; exact (h2.2 0 e _ rfl rfl).1
 ·rename_i k e hu
  simp only [Bool.and_eq_true] at hp
  obtain ⟨cs, rfl, hsz⟩ := okWide_array hu hv
  rw [hp.2]
  have hl : ds.length = cs.size := by have := h2.1; simpa [Value.cells] using this
  refine .ag ds cs hl.symm (fun j v hj => ?_) (fun j e v hj hv => ?_)
  ·have hjl := (Array.getElem?_eq_some_iff.1 hj).1
   exact (h2.2 j _ v (List.getElem?_eq_getElem (by omega)) (by simpa [Value.cells] using hj)).2
  ·exact (h2.2 j e v hj (by simpa [Value.cells] using hv)).1
 ·cases hp

theorem args_fit {r : Reach} {b0 : Nat} : ∀ (ts : List TypeId) (vs : List Value) (ds : List (DataW H)) (p : List MemPlace), (∀ t ∈ ts, plainTy P 8 t = true) → (∀ (j : Nat) t v, ts[j]? = some t → vs[j]? = some v → Value.okWide P w r b0 t v) →
  DataW.TrodAll enc P w base spare held ts vs ds p → (∀ (j : Nat) t d, ts[j]? = some t → ds[j]? = some d → Sized P t d) → ∃ xs : List D, xs.length = ts.length ∧ vs.length = ts.length ∧ ds.length = ts.length ∧ (∀ (j : Nat) t x, ts[j]? = some t → xs[j]? = some x → ArgOk P t x) ∧ ∀ (j : Nat) x v, xs[j]? = some x → vs[j]? = some v → D.At w noX x v := by
 intro ts
 induction ts with
 | nil =>
  intro vs ds p _ _ h _
  cases vs <;> cases ds <;> simp [DataW.TrodAll] at h
  exact ⟨[], rfl, rfl, rfl, by simp, by simp⟩
 | cons t ts ih =>
  intro vs ds p hp hv h hsz
  cases vs with
  | nil => simp [DataW.TrodAll] at h
  | cons v vs =>
   cases ds with
   | nil => simp [DataW.TrodAll] at h
   | cons d ds =>
    obtain ⟨p1, q1, h1, h2, _⟩ := h
    obtain ⟨x, g1, g2⟩ := arg_fit (hp t (by simp)) (hv 0 t v rfl rfl) h1 (hsz 0 t d rfl rfl)
    obtain ⟨xs, e1, e2, e3, e4, e5⟩ := ih vs ds q1 (fun t' ht' => hp t' (List.mem_cons_of_mem _ ht')) (fun j t' v' hj hv' => hv (j + 1) t' v' (by simpa using hj) (by simpa using hv')) h2 (fun j t' d' hj hd' => hsz (j + 1) t' d' (by simpa using hj) (by simpa using hd'))
    refine ⟨x :: xs, by simp [e1], by simp [e2], by simp [e3], fun j t' x' hj hx => ?_, fun j x' v' hj hv' => ?_⟩
    ·cases j with
     | zero => simp at hj hx; subst hj; subst hx; exact g1
     | succ j => exact e4 j t' x' (by simpa using hj) (by simpa using hx)
    ·cases j with
     | zero => simp at hj hv'; subst hj; subst hv'; exact g2
     | succ j => exact e5 j x' v' (by simpa using hj) (by simpa using hv')

theorem args_stay (hl : laidOutB P = true) {W W' : World} (hb : Below W.heap.size W W') : ∀ (ts : List TypeId) (vs : List Value) (ds : List (DataW H)) (p : List MemPlace), (∀ t ∈ ts, P.readableRec t = true ∧ t < P.types.size) → (∀ x ∈ p, x.block < W.heap.size) →
  DataW.TrodAll enc P W 0 (fun _ => true) true ts vs ds p → DataW.TrodAll enc P W' 0 (fun b => decide (b < W.heap.size)) true ts vs ds p := by
 intro ts
 induction ts with
 | nil => intro vs ds p _ _ h; cases vs <;> cases ds <;> simp [DataW.TrodAll] at h ⊢; exact h
 | cons t ts ih =>
  intro vs ds p hr hlt h
  cases vs with
  | nil => simp [DataW.TrodAll] at h
  | cons v vs =>
   cases ds with
   | nil => simp [DataW.TrodAll] at h
   | cons d ds =>
    obtain ⟨p1, q1, h1, h2, rfl⟩ := h
    exact ⟨p1, q1, Below.trod hl (hr t (by simp)).1 (hr t (by simp)).2 h1 hb (fun x hx => hlt x (by simp [hx])), ih vs ds q1 (fun t' ht' => hr t' (List.mem_cons_of_mem _ ht')) (fun x hx => hlt x (by simp [hx])) h2, rfl⟩

end reads
end Go.PS
namespace Go.Bd

def sm (f : Nat → Int) : Nat → Int
 | 0 => 0
 | k + 1 => sm f k + f k
section bound
variable (c : Nat → Nat → Int) (n : Nat)
def fr (l : List Nat) (w : Nat) : Int := if w ∈ l then 0 else 1
def low (l : List Nat) : Int := sm (fun b => sm (fun a => if a ∉ l ∧ b ∉ l then min (c a b) (c b a) else 0) b) n
structure Part (f : Nat) (l : List Nat) : Prop where
 nd : l.Nodup
 lt : ∀ v, v ∈ l → v < n
 len : l.length + f = n
variable {n}
theorem Part.snoc {f : Nat} {l : List Nat} (h : Part n (f + 1) l) {v : Nat} (hv : v < n) (hl : v ∉ l) : Part n f (l ++ [v]) := by
 refine ⟨?_, ?_, by have := h.len; simp; omega⟩
 ·rw [List.nodup_append]
  refine ⟨h.nd, by simp, ?_⟩
  intro a ha b hb
  rw [List.mem_singleton] at hb
  subst hb
  rintro rfl
  exact hl ha
 ·intro w hw
  rcases List.mem_append.1 hw with hw | hw
  ·exact h.lt w hw
  ·rw [List.mem_singleton.1 hw]; exact hv
end bound
/-! ### What one pair of places adds -/
section pairs
theorem idx_ne {u b : Nat} {l : List Nat} (h : ¬ u = b) : (u :: l).idxOf b = l.idxOf b + 1 := by
 have : (u == b) = false := by simpa using h
 rw [List.idxOf_cons, this]; rfl
end pairs
end Go.Bd
namespace Go.Cy
open Go.Bd (Part)

abbrev NA := Nat × Nat

def Acy (l : List NA) : Prop := ∃ r : Nat → Nat, ∀ a, a ∈ l → a.1 ≠ a.2 → r a.1 < r a.2
def noLoops (l : List NA) : List NA := l.filter fun a => !decide (a.1 = a.2)
theorem acy_noLoops (l : List NA) : Acy (noLoops l) ↔ Acy l := by
 constructor
 ·rintro ⟨r, h⟩
  refine ⟨r, fun a ha hn => h a ?_ hn⟩
  simp [noLoops, ha, hn]
 ·rintro ⟨r, h⟩
  refine ⟨r, fun a ha hn => h a ?_ hn⟩
  simp only [noLoops, List.mem_filter] at ha
  exact ha.1
def InN (n : Nat) (l : List NA) : Prop := ∀ a, a ∈ l → a.1 < n ∧ a.2 < n

def Src (l : List NA) (G : List Nat) (v : Nat) : Prop := ∀ a, a ∈ l → a.2 = v → a.1 ≠ v → a.1 ∈ G
def Peel (l : List NA) (G : List Nat) : Prop := ∃ r : Nat → Nat, (∀ v, v ∈ G → r v < G.length) ∧ ∀ a, a ∈ l → a.1 ≠ a.2 → a.2 ∈ G → a.1 ∈ G ∧ r a.1 < r a.2
theorem peel_nil (l : List NA) : Peel l [] := ⟨fun _ => 0, by simp, by simp⟩
theorem Peel.cons {l : List NA} {G : List Nat} {v : Nat} (h : Peel l G) (hv : v ∉ G) (hs : Src l G v) : Peel l (v :: G) := by
 obtain ⟨r, h1, h2⟩ := h
 refine ⟨fun u => if u = v then G.length else r u, ?_, ?_⟩
 ·intro u hu
  dsimp only
  by_cases c : u = v
  ·simp [c]
  ·rw [if_neg c]
   have := h1 u (by simpa [c] using hu)
   simp; omega
 ·intro a ha hn h3
  dsimp only
  by_cases c : a.2 = v
  ·have h4 := hs a ha c (by rw [← c]; exact hn)
   have h5 : a.1 ≠ v := fun h => hv (h ▸ h4)
   refine ⟨List.mem_cons_of_mem _ h4, ?_⟩
   rw [if_neg h5, if_pos c]
   exact h1 _ h4
  ·have h4 := h2 a ha hn (by simpa [c] using h3)
   have h5 : a.1 ≠ v := fun h => hv (h ▸ h4.1)
   refine ⟨List.mem_cons_of_mem _ h4.1, ?_⟩
   rw [if_neg h5, if_neg c]
   exact h4.2
theorem Peel.all {n : Nat} {l : List NA} {G : List Nat} (h : Peel l G) (hi : InN n l) (hg : ∀ v, v < n → v ∈ G) : Acy l := by
 obtain ⟨r, _, h2⟩ := h
 exact ⟨r, fun a ha hn => (h2 a ha hn (hg _ (hi a ha).2)).2⟩
theorem nd_le : ∀ {n : Nat} {G : List Nat}, G.Nodup → (∀ v, v ∈ G → v < n) → G.length ≤ n
 | 0, [], _, _ => by simp
 | 0, v :: _, _, h => by have := h v (by simp); omega
 | n + 1, G, hn, h => by
  have := @nd_le n (G.erase n) (hn.erase _) fun v hv => by
   have h1 := (List.Nodup.mem_erase_iff hn).1 hv
   have := h v h1.2; omega
  have := List.length_erase_le (a := n) (l := G)
  have : G.length ≤ (G.erase n).length + 1 := by rw [List.length_erase]; split <;> omega
  omega
theorem nd_all : ∀ {n : Nat} {G : List Nat}, G.Nodup → (∀ v, v ∈ G → v < n) → n ≤ G.length → ∀ v, v < n → v ∈ G := by
 intro n G hn h hl v hv
 refine Decidable.byContradiction fun hc => ?_
 have := @nd_le n (v :: G) (List.nodup_cons.2 ⟨hc, hn⟩) fun u hu => by
  rcases List.mem_cons.1 hu with rfl | hu
  ·exact hv
  ·exact h u hu
 simp at this; omega
def Stuck (n : Nat) (l : List NA) (G : List Nat) : Prop := ∀ v, v < n → v ∉ G → ¬ Src l G v
theorem stuck_all {n : Nat} {l : List NA} {G : List Nat} (hi : InN n l) (ha : Acy l) (hs : Stuck n l G) : ∀ v, v < n → v ∈ G := by
 obtain ⟨r, hr⟩ := ha
 have : ∀ (k v : Nat), r v < k → v < n → v ∈ G := by
  intro k
  induction k with
  | zero => intro v h; omega
  | succ k ih =>
   intro v hk hv
   refine Decidable.byContradiction fun hc => hs v hv hc ?_
   intro a ha h2 h1
   have h3 := hr a ha (by rw [h2]; exact h1)
   rw [h2] at h3
   exact ih a.1 (by omega) (hi a ha).1
 exact fun v hv => this (r v + 1) v (by omega) hv

def flipN (l : List NA) (set : List Nat) : List NA := l.mapIdx fun i a => if i ∈ set then (a.2, a.1) else a
theorem flipN_get {l : List NA} {set : List Nat} {k : Nat} {a : NA} (h : l[k]? = some a) : (flipN l set)[k]? = some (if k ∈ set then (a.2, a.1) else a) := by
 simp [flipN, List.getElem?_mapIdx, h]
theorem flipN_len (l : List NA) (set : List Nat) : (flipN l set).length = l.length := by simp [flipN]
theorem flipN_mem {l : List NA} {set : List Nat} {b : NA} (h : b ∈ flipN l set) : ∃ k a, l[k]? = some a ∧ b = if k ∈ set then (a.2, a.1) else a := by
 obtain ⟨k, hk⟩ := List.mem_iff_getElem?.1 h
 have hlt : k < l.length := by have := (List.getElem?_eq_some_iff.1 hk).1; rw [flipN_len] at this; exact this
 refine ⟨k, l[k], List.getElem?_eq_getElem hlt, ?_⟩
 have := flipN_get (set := set) (List.getElem?_eq_getElem hlt)
 rw [hk] at this
 exact Option.some.inj this
theorem flipN_in {n : Nat} {l : List NA} {set : List Nat} (h : InN n l) : InN n (flipN l set) := by
 intro b hb
 obtain ⟨k, a, ha, rfl⟩ := flipN_mem hb
 have := h a (List.mem_of_getElem? ha)
 split
 ·exact ⟨this.2, this.1⟩
 ·exact this
theorem flipN_nil (l : List NA) : flipN l [] = l := by
 refine List.ext_getElem? fun u => ?_
 rcases Nat.lt_or_ge u l.length with h | h
 ·rw [flipN_get (List.getElem?_eq_getElem h)]; simp [h]
 ·rw [List.getElem?_eq_none (by rw [flipN_len]; exact h), List.getElem?_eq_none h]
abbrev Asc (l : List Nat) : Prop := l.Pairwise (· < ·)
theorem asc_ext : ∀ {a b : List Nat}, Asc a → Asc b → (∀ x, x ∈ a ↔ x ∈ b) → a = b
 | [], [], _, _, _ => rfl
 | [], y :: b, _, _, h => by have := (h y).2 (by simp); simp at this
 | x :: a, [], _, _, h => by have := (h x).1 (by simp); simp at this
 | x :: a, y :: b, ha, hb, h => by
  rw [Asc, List.pairwise_cons] at ha hb
  have e : x = y := by
   have h1 := (h x).1 (by simp)
   have h2 := (h y).2 (by simp)
   rcases List.mem_cons.1 h1 with h1 | h1
   ·exact h1
   ·rcases List.mem_cons.1 h2 with h2 | h2
    ·exact h2.symm
    ·have := hb.1 _ h1; have := ha.1 _ h2; omega
  subst e
  rw [asc_ext ha.2 hb.2 fun z => ?_]
  constructor
  ·intro hz
   have := ha.1 _ hz
   rcases List.mem_cons.1 ((h z).1 (List.mem_cons_of_mem _ hz)) with rfl | h3
   ·omega
   ·exact h3
  ·intro hz
   have := hb.1 _ hz
   rcases List.mem_cons.1 ((h z).2 (List.mem_cons_of_mem _ hz)) with rfl | h3
   ·omega
   ·exact h3
theorem asc_filter_range (p : Nat → Bool) (m : Nat) : Asc ((List.range m).filter p) := List.Pairwise.filter _ List.pairwise_lt_range
def SetOk (l : List NA) (set : List Nat) : Prop := Asc set ∧ ∀ i, i ∈ set → ∃ a, l[i]? = some a ∧ a.1 ≠ a.2
def Brk (l : List NA) (set : List Nat) : Prop := SetOk l set ∧ Acy (flipN l set)
def bwd (M : List Nat) (a : NA) : Bool := decide (M.idxOf a.2 < M.idxOf a.1)
def bwdAt (M : List Nat) (l : List NA) (i : Nat) : Bool := match l[i]? with
 | some a => bwd M a
 | none => false
def backL (M : List Nat) (l : List NA) : List Nat := (List.range l.length).filter (bwdAt M l)
theorem mem_backL {M : List Nat} {l : List NA} {i : Nat} : i ∈ backL M l ↔ ∃ a, l[i]? = some a ∧ bwd M a = true := by
 simp only [backL, List.mem_filter, List.mem_range, bwdAt]
 constructor
 ·rintro ⟨h1, h2⟩
  rw [List.getElem?_eq_getElem h1] at h2 ⊢
  exact ⟨_, rfl, h2⟩
 ·rintro ⟨a, h1, h2⟩
  refine ⟨(List.getElem?_eq_some_iff.1 h1).1, ?_⟩
  rw [h1]; exact h2
theorem bwd_ne {M : List Nat} {a : NA} (h : bwd M a = true) : a.1 ≠ a.2 := by
 intro e
 simp only [bwd, decide_eq_true_eq, e] at h
 omega
theorem idx_inj {M : List Nat} {u v : Nat} (hu : u ∈ M) (hv : v ∈ M) (h : M.idxOf u = M.idxOf v) : u = v := by
 have h1 := List.getElem_idxOf (List.idxOf_lt_length_of_mem hu)
 have h2 := List.getElem_idxOf (List.idxOf_lt_length_of_mem hv)
 simp only [h] at h1
 exact h1.symm.trans h2
theorem Part.mem {n : Nat} {M : List Nat} (h : Part n 0 M) {v : Nat} (hv : v < n) : v ∈ M := nd_all h.nd h.lt (by have := h.len; omega) v hv
theorem back_brk {n : Nat} {M : List Nat} {l : List NA} (hM : Part n 0 M) (hi : InN n l) : Brk l (backL M l) := by
 refine ⟨⟨asc_filter_range _ _, fun i h => ?_⟩, fun v => M.idxOf v, fun b hb hn => ?_⟩
 ·obtain ⟨a, h1, h2⟩ := mem_backL.1 h
  exact ⟨a, h1, bwd_ne h2⟩
 ·obtain ⟨k, a, ha, rfl⟩ := flipN_mem hb
  have hin := hi a (List.mem_of_getElem? ha)
  by_cases c : k ∈ backL M l
  ·rw [if_pos c]
   obtain ⟨a', h1, h2⟩ := mem_backL.1 c
   rw [ha] at h1; cases h1
   simpa [bwd] using h2
  ·rw [if_neg c] at hn ⊢
   have h2 : ¬ (M.idxOf a.2 < M.idxOf a.1) := fun h => c (mem_backL.2 ⟨a, ha, by simpa [bwd] using h⟩)
   have h3 : M.idxOf a.1 ≠ M.idxOf a.2 := fun h => hn (idx_inj (Part.mem hM hin.1) (Part.mem hM hin.2) h)
   dsimp only
   omega
theorem sort_rank (n : Nat) (r : Nat → Nat) : ∃ M, Part n 0 M ∧ ∀ u v, u < n → v < n → r u < r v → M.idxOf u < M.idxOf v := by
 let M := (List.range n).mergeSort fun u v => decide (r u ≤ r v)
 have hp : M.Perm (List.range n) := List.mergeSort_perm _ _
 have hs : M.Pairwise (fun u v => decide (r u ≤ r v) = true) := List.pairwise_mergeSort (fun a b c h1 h2 => by simp at *; omega) (fun a b => by simp; omega) _
 have hM : Part n 0 M := ⟨hp.nodup_iff.2 List.nodup_range, fun v hv => List.mem_range.1 (hp.mem_iff.1 hv), by simp [hp.length_eq]⟩
 refine ⟨M, hM, fun u v hu hv h => ?_⟩
 have hu' := List.idxOf_lt_length_of_mem (Part.mem hM hu)
 have hv' := List.idxOf_lt_length_of_mem (Part.mem hM hv)
 rcases Nat.lt_trichotomy (M.idxOf u) (M.idxOf v) with h1 | h1 | h1
 ·exact h1
 ·have := idx_inj (Part.mem hM hu) (Part.mem hM hv) h1
  subst this; omega
 ·have := (List.pairwise_iff_getElem.1 hs) _ _ hv' hu' h1
  rw [List.getElem_idxOf hv', List.getElem_idxOf hu'] at this
  simp at this; omega
theorem brk_back {n : Nat} {l : List NA} {set : List Nat} (hi : InN n l) (h : Brk l set) : ∃ M, Part n 0 M ∧ backL M l = set := by
 obtain ⟨⟨h1, h2⟩, r, hr⟩ := h
 obtain ⟨M, hM, hs⟩ := sort_rank n r
 refine ⟨M, hM, asc_ext (asc_filter_range _ _) h1 fun i => ?_⟩
 rw [mem_backL]
 constructor
 ·rintro ⟨a, ha, hb⟩
  refine Decidable.byContradiction fun hc => ?_
  have hin := hi a (List.mem_of_getElem? ha)
  have h3 := flipN_get (set := set) ha
  rw [if_neg hc] at h3
  have h4 := hs _ _ hin.1 hin.2 (hr a (List.mem_of_getElem? h3) (bwd_ne hb))
  simp only [bwd, decide_eq_true_eq] at hb
  omega
 ·intro hset
  obtain ⟨a, ha, hn⟩ := h2 i hset
  have hin := hi a (List.mem_of_getElem? ha)
  have h3 := flipN_get (set := set) ha
  rw [if_pos hset] at h3
  have h4 := hs _ _ hin.2 hin.1 (hr _ (List.mem_of_getElem? h3) (Ne.symm hn))
  exact ⟨a, ha, by simpa [bwd] using h4⟩
def lexLt : List Nat → List Nat → Bool
 | x :: a, y :: b => if x = y then lexLt a b else decide (x < y)
 | [], _ => false
 | _ :: _, [] => false
def lessS (a b : List Nat) : Bool := if a.length = b.length then lexLt a b else decide (a.length < b.length)
theorem lexLt_irr : ∀ a, lexLt a a = false
 | [] => rfl
 | x :: a => by simp [lexLt, lexLt_irr a]
theorem lexLt_eq : ∀ {a b : List Nat}, a.length = b.length → lexLt a b = false → lexLt b a = false → a = b
 | [], [], _, _, _ => rfl
 | [], _ :: _, h, _, _ => by simp at h
 | _ :: _, [], h, _, _ => by simp at h
 | x :: a, y :: b, h, h1, h2 => by
  simp only [lexLt] at h1 h2
  by_cases c : x = y
  ·subst c
   simp only [if_true] at h1 h2
   rw [lexLt_eq (by simpa using h) h1 h2]
  ·rw [if_neg c] at h1
   rw [if_neg (Ne.symm c)] at h2
   simp at h1 h2; omega
theorem lessS_eq {a b : List Nat} (h1 : lessS a b = false) (h2 : lessS b a = false) : a = b := by
 simp only [lessS] at h1 h2
 by_cases c : a.length = b.length
 ·rw [if_pos c] at h1; rw [if_pos c.symm] at h2
  exact lexLt_eq c h1 h2
 ·rw [if_neg c] at h1; rw [if_neg (Ne.symm c)] at h2
  simp at h1 h2; omega
theorem lexLt_asymm : ∀ {a b : List Nat}, lexLt a b = true → lexLt b a = false
 | [], b, h => by cases b <;> simp [lexLt] at h
 | _ :: _, [], h => by simp [lexLt] at h
 | x :: a, y :: b, h => by
  simp only [lexLt] at h ⊢
  by_cases c : x = y
  ·subst c
   simp only [if_true] at h ⊢
   exact lexLt_asymm h
  ·rw [if_neg c] at h; rw [if_neg (Ne.symm c)]
   simp at h ⊢; omega
theorem lessS_asymm {a b : List Nat} (h : lessS a b = true) : lessS b a = false := by
 simp only [lessS] at h ⊢
 by_cases c : a.length = b.length
 ·rw [if_pos c] at h; rw [if_pos c.symm]; exact lexLt_asymm h
 ·rw [if_neg c] at h; rw [if_neg (Ne.symm c)]
  simp at h ⊢; omega
theorem lexLt_trans : ∀ {a b c : List Nat}, lexLt a b = true → lexLt b c = true → lexLt a c = true
 | [], b, _, h, _ => by cases b <;> simp [lexLt] at h
 | _ :: _, [], _, h, _ => by simp [lexLt] at h
 | _ :: _, _ :: _, [], _, h => by simp [lexLt] at h
 | x :: a, y :: b, z :: c, h1, h2 => by
  simp only [lexLt] at h1 h2 ⊢
  by_cases e1 : x = y
  ·subst e1
   rw [if_pos rfl] at h1
   by_cases e2 : x = z
   ·subst e2
    rw [if_pos rfl] at h2 ⊢
    exact lexLt_trans h1 h2
   ·rw [if_neg e2] at h2 ⊢; exact h2
  ·rw [if_neg e1] at h1
   by_cases e2 : y = z
   ·subst e2
    rw [if_neg e1]; exact h1
   ·rw [if_neg e2] at h2
    simp at h1 h2
    rw [if_neg (by omega)]
    simp; omega
theorem lessS_trans {a b c : List Nat} (h1 : lessS a b = true) (h2 : lessS b c = true) : lessS a c = true := by
 simp only [lessS] at *
 by_cases e1 : a.length = b.length
 ·rw [if_pos e1] at h1
  by_cases e2 : b.length = c.length
  ·rw [if_pos e2] at h2; rw [if_pos (e1.trans e2)]; exact lexLt_trans h1 h2
  ·rw [if_neg e2] at h2; rw [if_neg (by omega)]; simp at h2 ⊢; omega
 ·rw [if_neg e1] at h1
  by_cases e2 : b.length = c.length
  ·rw [if_neg (by omega)]; simp at h1 ⊢; omega
  ·rw [if_neg e2] at h2; simp at h1 h2; rw [if_neg (by omega)]; simp; omega
theorem lex_first : ∀ {a b : List Nat} {j : Nat}, Asc a → Asc b → a.length = b.length → j ∈ a → j ∉ b → (∀ i, i < j → (i ∈ a ↔ i ∈ b)) → lexLt a b = true
 | [], _, _, _, _, _, h, _, _ => by simp at h
 | _ :: _, [], _, _, _, h, _, _, _ => by simp at h
 | x :: a, y :: b, j, ha, hb, hl, h1, h2, h3 => by
  rw [Asc, List.pairwise_cons] at ha hb
  simp only [lexLt]
  by_cases c : x = y
  ·subst c
   rw [if_pos rfl]
   rcases List.mem_cons.1 h1 with rfl | h1
   ·exact (h2 (by simp)).elim
   ·refine lex_first ha.2 hb.2 (by simpa using hl) h1 (fun h => h2 (List.mem_cons_of_mem _ h)) fun i hi => ?_
    have h4 := h3 i hi
    constructor
    ·intro h5
     have := ha.1 _ h5
     rcases List.mem_cons.1 (h4.1 (List.mem_cons_of_mem _ h5)) with rfl | h6
     ·omega
     ·exact h6
    ·intro h5
     have := hb.1 _ h5
     rcases List.mem_cons.1 (h4.2 (List.mem_cons_of_mem _ h5)) with rfl | h6
     ·omega
     ·exact h6
  ·rw [if_neg c]
   refine decide_eq_true (Decidable.byContradiction fun h => ?_)
   have hy : y < x := by omega
   have hx : x ≤ j := by
    rcases List.mem_cons.1 h1 with rfl | h1
    ·exact Nat.le_refl _
    ·have := ha.1 _ h1; omega
   rcases List.mem_cons.1 ((h3 y (by omega)).2 (by simp)) with e | h4
   ·omega
   ·have := ha.1 _ h4; omega
end Go.Cy
namespace Go.Cy
open Go.Bd (Part)

theorem perm_sum {a b : List Nat} (h : a.Perm b) : a.sum = b.sum := by
 induction h with
 | nil => rfl
 | cons x _ ih => simp [ih]
 | swap x y l => simp; omega
 | trans _ _ h1 h2 => exact h1.trans h2
theorem nodup_rev {α : Type} {l : List α} : l.reverse.Nodup ↔ l.Nodup := by
 simp only [List.Nodup, List.pairwise_reverse, ne_comm]
def bkR (c : Nat → Nat → Nat) : List Nat → Nat
 | [] => 0
 | v :: P => bkR c P + (P.map (c v)).sum
def AdmR (F : Nat → Nat → Bool) : List Nat → Prop
 | [] => True
 | v :: P => AdmR F P ∧ ∀ u, F v u = true → u ∈ P
def bits (n s : Nat) : List Nat := (List.range n).filter fun u => s.testBit u
theorem mem_bits {n s u : Nat} : u ∈ bits n s ↔ u < n ∧ s.testBit u = true := by simp [bits]
theorem clr : ∀ s, s < 256 → ∀ v, v < 8 → s.testBit v = true → s - 2 ^ v < s ∧ ∀ u, u < 8 → (s - 2 ^ v).testBit u = (s.testBit u && !decide (u = v)) := by decide +kernel
def inB (n a b : Nat) : Bool := (List.range n).all fun u => !a.testBit u || b.testBit u
theorem inB_iff {n a b : Nat} : inB n a b = true ↔ ∀ u, u < n → a.testBit u = true → b.testBit u = true := by
 simp only [inB, List.all_eq_true, List.mem_range, Bool.or_eq_true, Bool.not_eq_true']
 constructor
 ·intro h u hu ha
  rcases h u hu with h | h
  ·rw [h] at ha; cases ha
  ·exact h
 ·intro h u hu
  cases ha : a.testBit u
  ·exact .inl rfl
  ·exact .inr (h u hu ha)
def foldMin (p : Nat → Bool) (g : Nat → Nat) (L : List Nat) (m : Nat) : Nat := L.foldl (fun acc v => if p v then min acc (g v) else acc) m
theorem foldMin_le {p : Nat → Bool} {g : Nat → Nat} : ∀ {L : List Nat} {m : Nat}, foldMin p g L m ≤ m ∧ ∀ v, v ∈ L → p v = true → foldMin p g L m ≤ g v
 | [], m => ⟨Nat.le_refl _, by simp⟩
 | w :: L, m => by
  have ih := @foldMin_le p g L (if p w then min m (g w) else m)
  have e : foldMin p g (w :: L) m = foldMin p g L (if p w then min m (g w) else m) := rfl
  rw [e]
  have h1 : (if p w then min m (g w) else m) ≤ m := by split <;> omega
  refine ⟨by omega, fun v hv hp => ?_⟩
  rcases List.mem_cons.1 hv with rfl | hv
  ·have : (if p v then min m (g v) else m) ≤ g v := by rw [if_pos hp]; omega
   omega
  ·exact ih.2 v hv hp
theorem foldMin_at {p : Nat → Bool} {g : Nat → Nat} : ∀ {L : List Nat} {m : Nat}, foldMin p g L m = m ∨ ∃ v, v ∈ L ∧ p v = true ∧ foldMin p g L m = g v
 | [], m => .inl rfl
 | w :: L, m => by
  have ih := @foldMin_at p g L (if p w then min m (g w) else m)
  have e : foldMin p g (w :: L) m = foldMin p g L (if p w then min m (g w) else m) := rfl
  rw [e]
  rcases ih with h | ⟨v, h1, h2, h3⟩
  ·rw [h]
   by_cases c : p w = true
   ·rw [if_pos c]
    rcases Nat.le_total m (g w) with h4 | h4
    ·left; omega
    ·right; exact ⟨w, by simp, c, by omega⟩
   ·rw [if_neg c]; exact .inl rfl
  ·exact .inr ⟨v, List.mem_cons_of_mem _ h1, h2, h3⟩
def atN (l : List Nat) (i : Nat) : Nat := (l[i]?).getD 0
def costOk (n : Nat) (fm : List Nat) (s v : Nat) : Bool := s.testBit v && inB n (atN fm v) (s - 2 ^ v)
def costG (n : Nat) (c : Nat → Nat → Nat) (L : List Nat) (s v : Nat) : Nat := atN L (s - 2 ^ v) + ((bits n (s - 2 ^ v)).map (c v)).sum
def costAt (n : Nat) (c : Nat → Nat → Nat) (fm L : List Nat) (s : Nat) : Nat := foldMin (costOk n fm s) (costG n c L s) (List.range n) 1048576
def costL (n : Nat) (c : Nat → Nat → Nat) (fm : List Nat) : Nat → List Nat
 | 0 => [0]
 | k + 1 => costL n c fm k ++ [costAt n c fm (costL n c fm k) (k + 1)]
theorem costL_len (n : Nat) (c : Nat → Nat → Nat) (fm : List Nat) (k : Nat) : (costL n c fm k).length = k + 1 := by
 induction k with
 | zero => rfl
 | succ k ih => simp [costL, ih]
def costN (n : Nat) (c : Nat → Nat → Nat) (fm : List Nat) (s : Nat) : Nat := atN (costL n c fm s) s
theorem costL_at (n : Nat) (c : Nat → Nat → Nat) (fm : List Nat) {k s : Nat} (h : s ≤ k) : atN (costL n c fm k) s = costN n c fm s := by
 induction k with
 | zero => obtain rfl : s = 0 := by omega
           rfl
 | succ k ih =>
  rcases Nat.lt_or_ge s (k + 1) with h1 | h1
  ·rw [← ih (by omega)]
   simp only [atN, costL]
   rw [List.getElem?_append_left (by rw [costL_len]; omega)]
  ·obtain rfl : s = k + 1 := by omega
   rfl
theorem costN_zero (n : Nat) (c : Nat → Nat → Nat) (fm : List Nat) : costN n c fm 0 = 0 := rfl
theorem costN_succ (n : Nat) (c : Nat → Nat → Nat) (fm : List Nat) (k : Nat) : costN n c fm (k + 1) = costAt n c fm (costL n c fm k) (k + 1) := by
 simp only [costN, atN, costL]
 rw [List.getElem?_append_right (by rw [costL_len]; omega), costL_len]
 simp
def leastN (n : Nat) (c : Nat → Nat → Nat) (fm : List Nat) : Nat := costN n c fm (2 ^ n - 1)
def fmF (fm : List Nat) (v u : Nat) : Bool := (atN fm v).testBit u
def OrdR (n s : Nat) (R : List Nat) : Prop := R.Nodup ∧ ∀ u, u ∈ R ↔ u < n ∧ s.testBit u = true
theorem pow_le8 {n : Nat} (h : n ≤ 8) : 2 ^ n ≤ 256 := Nat.pow_le_pow_right (n := 2) (by decide) h
theorem bits_perm {n s : Nat} {R : List Nat} (h : OrdR n s R) : R.Perm (bits n s) :=
 (List.perm_ext_iff_of_nodup h.1 (List.nodup_range.filter _)).2 fun u => (h.2 u).trans mem_bits.symm
theorem OrdR.tail {n s v : Nat} {P : List Nat} (h8 : n ≤ 8) (hs : s < 2 ^ n) (h : OrdR n s (v :: P)) : v < n ∧ s.testBit v = true ∧ s - 2 ^ v < s ∧ OrdR n (s - 2 ^ v) P := by
 have := pow_le8 h8
 obtain ⟨h1, h2⟩ := (h.2 v).1 (by simp)
 obtain ⟨h3, h4⟩ := clr s (by omega) v (by omega) h2
 have hn := List.nodup_cons.1 h.1
 refine ⟨h1, h2, h3, hn.2, fun u => ?_⟩
 constructor
 ·intro hu
  obtain ⟨h5, h6⟩ := (h.2 u).1 (List.mem_cons_of_mem _ hu)
  refine ⟨h5, ?_⟩
  rw [h4 u (by omega), h6]
  have : u ≠ v := fun e => hn.1 (e ▸ hu)
  simp [this]
 ·rintro ⟨h5, h6⟩
  rw [h4 u (by omega)] at h6
  simp only [Bool.and_eq_true, Bool.not_eq_true', decide_eq_false_iff_not] at h6
  rcases List.mem_cons.1 ((h.2 u).2 ⟨h5, h6.1⟩) with e | h7
  ·exact (h6.2 e).elim
  ·exact h7
theorem OrdR.cons {n s v : Nat} {P : List Nat} (h8 : n ≤ 8) (hs : s < 2 ^ n) (hv : v < n) (hb : s.testBit v = true) (h : OrdR n (s - 2 ^ v) P) : OrdR n s (v :: P) := by
 have := pow_le8 h8
 obtain ⟨h3, h4⟩ := clr s (by omega) v (by omega) hb
 refine ⟨List.nodup_cons.2 ⟨fun hc => ?_, h.1⟩, fun u => ?_⟩
 ·have := ((h.2 v).1 hc).2
  rw [h4 v (by omega)] at this
  simp at this
 ·rw [List.mem_cons, h.2]
  constructor
  ·rintro (rfl | ⟨h5, h6⟩)
   ·exact ⟨hv, hb⟩
   ·rw [h4 u (by omega)] at h6
    simp only [Bool.and_eq_true] at h6
    exact ⟨h5, h6.1⟩
  ·rintro ⟨h5, h6⟩
   by_cases e : u = v
   ·exact .inl e
   ·right
    refine ⟨h5, ?_⟩
    rw [h4 u (by omega), h6]; simp [e]
theorem ord_nil {n s : Nat} (hs : s < 2 ^ n) (h : OrdR n s []) : s = 0 := by
 refine Nat.eq_of_testBit_eq fun u => ?_
 rw [Nat.zero_testBit]
 rcases Nat.lt_or_ge u n with hu | hu
 ·cases hb : s.testBit u
  ·rfl
  ·have := (h.2 u).2 ⟨hu, hb⟩
   cases this
 ·exact Nat.testBit_lt_two_pow (Nat.lt_of_lt_of_le hs (Nat.pow_le_pow_right (by decide) hu))
theorem cost_low {n : Nat} (h8 : n ≤ 8) (c : Nat → Nat → Nat) (fm : List Nat) : ∀ (R : List Nat) (s : Nat), s < 2 ^ n → OrdR n s R → AdmR (fmF fm) R → costN n c fm s ≤ bkR c R
 | [], s, hs, ho, _ => by
  rw [ord_nil hs ho, costN_zero]; exact Nat.zero_le _
 | v :: P, s, hs, ho, ha => by
  obtain ⟨h1, h2, h3, h4⟩ := ho.tail h8 hs
  obtain ⟨k, rfl⟩ : ∃ k, s = k + 1 := ⟨s - 1, by omega⟩
  have ih := cost_low h8 c fm P _ (by omega) h4 ha.1
  rw [costN_succ, costAt]
  have hok : costOk n fm (k + 1) v = true := by
   simp only [costOk, h2, Bool.true_and]
   exact inB_iff.2 fun u hu hb => ((h4.2 u).1 (ha.2 u hb)).2
  have := (@foldMin_le (costOk n fm (k + 1)) (costG n c (costL n c fm k) (k + 1)) (List.range n) 1048576).2 v (List.mem_range.2 h1) hok
  refine Nat.le_trans this ?_
  rw [costG, costL_at n c fm (by omega), bkR, ← perm_sum ((bits_perm h4).map (c v))]
  omega
theorem cost_at {n : Nat} (h8 : n ≤ 8) (c : Nat → Nat → Nat) (fm : List Nat) (hf : ∀ v, atN fm v < 2 ^ n) : ∀ (s : Nat), s < 2 ^ n → costN n c fm s < 1048576 → ∃ R, OrdR n s R ∧ AdmR (fmF fm) R ∧ bkR c R = costN n c fm s := by
 intro s
 induction s using Nat.strongRecOn with
 | ind s ih =>
  intro hs hc
  rcases Nat.eq_zero_or_pos s with rfl | hpos
  ·exact ⟨[], ⟨List.nodup_nil, by simp⟩, trivial, rfl⟩
  ·obtain ⟨k, rfl⟩ : ∃ k, s = k + 1 := ⟨s - 1, by omega⟩
   rw [costN_succ, costAt] at hc ⊢
   rcases @foldMin_at (costOk n fm (k + 1)) (costG n c (costL n c fm k) (k + 1)) (List.range n) 1048576 with h | ⟨v, h1, h2, h3⟩
   ·omega
   ·rw [h3] at hc ⊢
    have hv := List.mem_range.1 h1
    simp only [costOk, Bool.and_eq_true] at h2
    have := pow_le8 h8
    obtain ⟨h4, h5⟩ := clr (k + 1) (by omega) v (by omega) h2.1
    rw [costG, costL_at n c fm (by omega)] at hc ⊢
    obtain ⟨P, g1, g2, g3⟩ := ih (k + 1 - 2 ^ v) h4 (by omega) (by omega)
    refine ⟨v :: P, g1.cons h8 hs hv h2.1, ⟨g2, fun u hu => ?_⟩, ?_⟩
    ·refine (g1.2 u).2 ?_
     rcases Nat.lt_or_ge u n with hun | hun
     ·exact ⟨hun, inB_iff.1 h2.2 u hun hu⟩
     ·have := Nat.testBit_lt_two_pow (Nat.lt_of_lt_of_le (hf v) (Nat.pow_le_pow_right (n := 2) (by decide) hun))
      rw [fmF, this] at hu; cases hu
    ·rw [bkR, g3, perm_sum ((bits_perm g1).map (c v))]
theorem ord_full {n : Nat} {R : List Nat} : OrdR n (2 ^ n - 1) R ↔ Part n 0 R.reverse := by
 constructor
 ·rintro ⟨h1, h2⟩
  have h3 : ∀ u, u ∈ R ↔ u < n := fun u => by rw [h2]; simp [Nat.testBit_two_pow_sub_one]
  refine ⟨nodup_rev.2 h1, fun v hv => (h3 v).1 (List.mem_reverse.1 hv), ?_⟩
  have := (List.perm_ext_iff_of_nodup h1 List.nodup_range).2 (fun u => by rw [h3, List.mem_range])
  simpa using this.length_eq
 ·intro h
  refine ⟨nodup_rev.1 h.nd, fun u => ?_⟩
  constructor
  ·intro hu
   have := h.lt u (List.mem_reverse.2 hu)
   simp [Nat.testBit_two_pow_sub_one, this]
  ·rintro ⟨hu, _⟩
   exact List.mem_reverse.1 (Part.mem h hu)
theorem part_range (n : Nat) : Part n 0 (List.range n) := ⟨List.nodup_range, fun v hv => List.mem_range.1 hv, by simp⟩
theorem idx_snoc {P : List Nat} {v u : Nat} (hu : u ∈ P) : (P ++ [v]).idxOf u = P.idxOf u := by rw [List.idxOf_append, if_pos hu]
theorem idx_last {P : List Nat} {v : Nat} (hv : v ∉ P) : (P ++ [v]).idxOf v = P.length := by
 rw [List.idxOf_append, if_neg hv]; simp
theorem adm_iff {F : Nat → Nat → Bool} : ∀ {R : List Nat}, R.Nodup → (AdmR F R ↔ ∀ v, v ∈ R → ∀ u, F v u = true → u ∈ R ∧ R.reverse.idxOf u < R.reverse.idxOf v)
 | [], _ => by simp [AdmR]
 | v :: P, hn => by
  have hn' := List.nodup_cons.1 hn
  have hv : v ∉ P.reverse := fun h => hn'.1 (List.mem_reverse.1 h)
  rw [AdmR, adm_iff hn'.2, List.reverse_cons]
  constructor
  ·rintro ⟨h1, h2⟩ w hw u hu
   rcases List.mem_cons.1 hw with rfl | hw
   ·have h3 := h2 u hu
    refine ⟨List.mem_cons_of_mem _ h3, ?_⟩
    rw [idx_last hv, idx_snoc (List.mem_reverse.2 h3)]
    exact List.idxOf_lt_length_of_mem (List.mem_reverse.2 h3)
   ·obtain ⟨h3, h4⟩ := h1 w hw u hu
    refine ⟨List.mem_cons_of_mem _ h3, ?_⟩
    rw [idx_snoc (List.mem_reverse.2 h3), idx_snoc (List.mem_reverse.2 hw)]
    exact h4
  ·intro h
   have key : ∀ w, w ∈ v :: P → ∀ u, F w u = true → u ∈ P := by
    intro w hw u hu
    obtain ⟨h3, h4⟩ := h w hw u hu
    rcases List.mem_cons.1 h3 with rfl | h3
    ·exfalso
     rw [idx_last hv] at h4
     rcases List.mem_cons.1 hw with rfl | hw
     ·rw [idx_last hv] at h4; omega
     ·rw [idx_snoc (List.mem_reverse.2 hw)] at h4
      have := List.idxOf_lt_length_of_mem (List.mem_reverse.2 hw)
      omega
    ·exact h3
   refine ⟨fun w hw u hu => ?_, fun u hu => key v (by simp) u hu⟩
   have h3 := key w (List.mem_cons_of_mem _ hw) u hu
   have h4 := (h w (List.mem_cons_of_mem _ hw) u hu).2
   rw [idx_snoc (List.mem_reverse.2 h3), idx_snoc (List.mem_reverse.2 hw)] at h4
   exact ⟨h3, h4⟩
def cnt (l : List NA) (u v : Nat) : Nat := (l.filter fun a => !decide (a.1 = a.2) && (decide (a.1 = u) && decide (a.2 = v))).length
def ind (a : NA) (u v : Nat) : Nat := if a.1 ≠ a.2 ∧ a.1 = u ∧ a.2 = v then 1 else 0
theorem cnt_cons (a : NA) (l : List NA) (u v : Nat) : cnt (a :: l) u v = ind a u v + cnt l u v := by
 simp only [cnt, ind, List.filter_cons]
 by_cases c : a.1 ≠ a.2 ∧ a.1 = u ∧ a.2 = v
 ·rw [if_pos c, if_pos (by simp [c.1, c.2.1, c.2.2]; intro h; exact c.1 (by rw [c.2.1, c.2.2, h]))]; simp; omega
 ·rw [if_neg c, if_neg (by simp only [Bool.and_eq_true, Bool.not_eq_true', decide_eq_false_iff_not, decide_eq_true_eq]; exact c)]; simp
theorem sum_add (f g : Nat → Nat) : ∀ P : List Nat, (P.map fun u => f u + g u).sum = (P.map f).sum + (P.map g).sum
 | [] => rfl
 | x :: P => by simp [sum_add f g P]; omega
theorem bk_add (c d : Nat → Nat → Nat) : ∀ R, bkR (fun u v => c u v + d u v) R = bkR c R + bkR d R
 | [] => rfl
 | v :: P => by
  simp only [bkR, bk_add c d P, sum_add]
  omega
theorem bk_zero : ∀ R, bkR (fun _ _ => 0) R = 0
 | [] => rfl
 | v :: P => by
  have h0 : ∀ T : List Nat, (T.map fun _ => 0).sum = 0 := fun T => by
   induction T with
   | nil => rfl
   | cons x T ih => rw [List.map_cons, List.sum_cons, ih]
  have := h0 P
  have e : bkR (fun _ _ => 0) (v :: P) = bkR (fun _ _ => 0) P + (P.map fun _ => 0).sum := rfl
  rw [e, bk_zero P, this]
theorem ind_row (a : NA) (v : Nat) : ∀ {P : List Nat}, P.Nodup → v ∉ P → (P.map (ind a v)).sum = if a.1 = v ∧ a.2 ∈ P then 1 else 0
 | [], _, _ => by simp
 | u :: P, hn, hv => by
  have hn' := List.nodup_cons.1 hn
  rw [List.map_cons, List.sum_cons, ind_row a v hn'.2 (fun h => hv (List.mem_cons_of_mem _ h))]
  have hvu : v ≠ u := fun h => hv (by simp [h])
  simp only [ind, List.mem_cons]
  by_cases c1 : a.1 = v
  ·by_cases c2 : a.2 = u
   ·have : a.2 ∉ P := c2 ▸ hn'.1
    rw [if_pos ⟨by rw [c1, c2]; exact hvu, c1, c2⟩, if_neg (fun h => this h.2), if_pos ⟨c1, .inl c2⟩]
   ·rw [if_neg (fun h => c2 h.2.2)]
    by_cases c3 : a.2 ∈ P
    ·rw [if_pos ⟨c1, c3⟩, if_pos ⟨c1, .inr c3⟩]
    ·rw [if_neg (fun h => c3 h.2), if_neg (fun h => h.2.elim c2 c3)]
  ·rw [if_neg (fun h => c1 h.2.1), if_neg (fun h => c1 h.1), if_neg (fun h => c1 h.1)]
theorem bk_ind_out (a : NA) : ∀ {R : List Nat}, R.Nodup → (a.1 ∉ R ∨ a.2 ∉ R) → bkR (ind a) R = 0
 | [], _, _ => rfl
 | v :: P, hn, h => by
  have hn' := List.nodup_cons.1 hn
  rw [bkR, bk_ind_out a hn'.2 (h.imp (fun h h' => h (List.mem_cons_of_mem _ h')) (fun h h' => h (List.mem_cons_of_mem _ h'))), ind_row a v hn'.2 hn'.1, if_neg]
  rintro ⟨h1, h2⟩
  rcases h with h | h
  ·exact h (by simp [h1])
  ·exact h (List.mem_cons_of_mem _ h2)
theorem bk_ind (a : NA) : ∀ {R : List Nat}, R.Nodup → a.1 ∈ R → a.2 ∈ R → bkR (ind a) R = if bwd R.reverse a then 1 else 0
 | [], _, h, _ => by cases h
 | v :: P, hn, h1, h2 => by
  have hn' := List.nodup_cons.1 hn
  have hv : v ∉ P.reverse := fun h => hn'.1 (List.mem_reverse.1 h)
  rw [bkR, ind_row a v hn'.2 hn'.1, List.reverse_cons]
  by_cases c1 : a.1 = v
  ·rw [bk_ind_out a hn'.2 (.inl (c1 ▸ hn'.1))]
   by_cases c2 : a.2 = v
   ·rw [if_neg (fun h => hn'.1 (c2 ▸ h.2)), if_neg (by simp [bwd, c1, c2])]
   ·have h3 := (List.mem_cons.1 h2).resolve_left c2
    have h4 := List.idxOf_lt_length_of_mem (List.mem_reverse.2 h3)
    rw [if_pos ⟨c1, h3⟩, if_pos (by simp only [bwd, c1, decide_eq_true_eq]; rw [idx_last hv, idx_snoc (List.mem_reverse.2 h3)]; exact h4)]
  ·rw [if_neg (fun h => c1 h.1)]
   have h3 := (List.mem_cons.1 h1).resolve_left c1
   by_cases c2 : a.2 = v
   ·rw [bk_ind_out a hn'.2 (.inr (c2 ▸ hn'.1)), if_neg]
    have h4 := List.idxOf_lt_length_of_mem (List.mem_reverse.2 h3)
    simp only [bwd, c2, decide_eq_true_eq]
    rw [idx_last hv, idx_snoc (List.mem_reverse.2 h3)]; omega
   ·have h5 := (List.mem_cons.1 h2).resolve_left c2
    have e : bwd (P.reverse ++ [v]) a = bwd P.reverse a := by
     simp only [bwd]
     rw [idx_snoc (List.mem_reverse.2 h3), idx_snoc (List.mem_reverse.2 h5)]
    rw [bk_ind a hn'.2 h3 h5, e, Nat.add_zero]
theorem bk_cnt : ∀ (l : List NA) {R : List Nat}, R.Nodup → (∀ a, a ∈ l → a.1 ∈ R ∧ a.2 ∈ R) → bkR (cnt l) R = (l.filter (bwd R.reverse)).length
 | [], R, _, _ => by
  have : cnt [] = fun _ _ => 0 := rfl
  rw [this, bk_zero]; rfl
 | a :: l, R, hn, h => by
  have e : cnt (a :: l) = fun u v => ind a u v + cnt l u v := funext fun u => funext fun v => cnt_cons a l u v
  rw [e, bk_add, bk_cnt l hn (fun b hb => h b (List.mem_cons_of_mem _ hb)), bk_ind a hn (h a (by simp)).1 (h a (by simp)).2, List.filter_cons]
  split
  ·simp; omega
  ·simp
theorem back_len (M : List Nat) (l : List NA) : (backL M l).length = (l.filter (bwd M)).length := by
 have : ∀ k, k ≤ l.length → ((List.range k).filter (bwdAt M l)).length = ((l.take k).filter (bwd M)).length := by
  intro k
  induction k with
  | zero => intro _; rfl
  | succ k ih =>
   intro hk
   have hg := List.getElem?_eq_getElem (show k < l.length by omega)
   rw [List.range_succ, List.filter_append, List.length_append, ih (by omega), List.take_add_one, hg, List.filter_append, List.length_append]
   simp only [Option.toList, List.filter_cons, List.filter_nil, bwdAt, hg]
   split <;> rfl
 have h := this l.length (Nat.le_refl _)
 rw [List.take_length] at h
 exact h
theorem bk_back {n : Nat} {l : List NA} {R : List Nat} (hi : InN n l) (hR : Part n 0 R.reverse) : bkR (cnt l) R = (backL R.reverse l).length := by
 have hm : ∀ u, u < n → u ∈ R := fun u hu => List.mem_reverse.1 (Part.mem hR hu)
 rw [bk_cnt l (nodup_rev.1 hR.nd) (fun a ha => ⟨hm _ (hi a ha).1, hm _ (hi a ha).2⟩), back_len]
def orAt (fm : List Nat) (v u : Nat) : List Nat := fm.set v (atN fm v ||| 2 ^ u)
def decS (n : Nat) (c : Nat → Nat → Nat) (size : Nat) (k : Nat) (a : NA) (st : List Nat × List Nat) : List Nat × List Nat :=
 if a.1 = a.2 then st else if leastN n c (orAt st.1 a.1 a.2) = size then (orAt st.1 a.1 a.2, st.2 ++ [k]) else (orAt st.1 a.2 a.1, st.2)
def decN (n : Nat) (c : Nat → Nat → Nat) (size : Nat) (l : List NA) : Nat → List Nat × List Nat
 | 0 => (List.replicate n 0, [])
 | k + 1 => match l[k]? with
  | some a => decS n c size k a (decN n c size l k)
  | none => decN n c size l k
def sizeN (n : Nat) (l : List NA) : Nat := leastN n (cnt l) (List.replicate n 0)
def leastS (n : Nat) (l : List NA) : List Nat := (decN n (cnt l) (sizeN n l) l l.length).2
theorem atN_orAt {fm : List Nat} {v u w : Nat} (hv : v < fm.length) : atN (orAt fm v u) w = if w = v then atN fm v ||| 2 ^ u else atN fm w := by
 simp only [atN, orAt, List.getElem?_set]
 by_cases c : v = w
 ·subst c; simp [hv]
 ·rw [if_neg c, if_neg (Ne.symm c)]
theorem fmF_orAt {fm : List Nat} {v u w x : Nat} (hv : v < fm.length) : fmF (orAt fm v u) w x = (fmF fm w x || (decide (w = v) && decide (x = u))) := by
 simp only [fmF, atN_orAt hv]
 by_cases c : w = v
 ·subst c
  rw [if_pos rfl, Nat.testBit_or, Nat.testBit_two_pow]
  by_cases c2 : x = u
  ·simp [c2]
  ·simp [c2, Ne.symm c2]
 ·simp [c]
theorem orAt_lt {n : Nat} {fm : List Nat} {v u : Nat} (hv : v < fm.length) (hu : u < n) (h : ∀ w, atN fm w < 2 ^ n) : ∀ w, atN (orAt fm v u) w < 2 ^ n := by
 intro w
 rw [atN_orAt hv]
 split
 ·exact Nat.or_lt_two_pow (h v) (Nat.pow_lt_pow_right (by decide) hu)
 ·exact h w
structure Dec (n : Nat) (l : List NA) (k : Nat) (fm D : List Nat) : Prop where
 len : fm.length = n
 lt : ∀ w, atN fm w < 2 ^ n
 asc : Asc D
 below : ∀ i, i ∈ D → i < k
 adm : ∀ R, Part n 0 R.reverse → (AdmR (fmF fm) R ↔ ∀ j, j < k → (j ∈ D ↔ j ∈ backL R.reverse l))
 some : ∃ R, Part n 0 R.reverse ∧ AdmR (fmF fm) R ∧ bkR (cnt l) R = sizeN n l
 first : ∀ R, Part n 0 R.reverse → bkR (cnt l) R = sizeN n l → (∀ j, j < k → (j ∈ D ↔ j ∈ backL R.reverse l)) ∨ ∃ j, j < k ∧ j ∈ D ∧ j ∉ backL R.reverse l ∧ ∀ i, i < j → (i ∈ D ↔ i ∈ backL R.reverse l)
theorem filter_len_le {α : Type} (p : α → Bool) (l : List α) : (l.filter p).length ≤ l.length := List.length_filter_le _ _
theorem atN_rep (n w : Nat) : atN (List.replicate n 0) w = 0 := by
 simp only [atN, List.getElem?_replicate]
 split <;> rfl
theorem adm_rep (n : Nat) (R : List Nat) : AdmR (fmF (List.replicate n 0)) R := by
 induction R with
 | nil => trivial
 | cons v P ih => exact ⟨ih, fun u hu => by rw [fmF, atN_rep, Nat.zero_testBit] at hu; cases hu⟩
theorem pow_pos' (n : Nat) : 0 < 2 ^ n := Nat.pow_pos (by decide)
theorem size_low {n : Nat} {l : List NA} (h8 : n ≤ 8) {R : List Nat} (hR : Part n 0 R.reverse) : sizeN n l ≤ bkR (cnt l) R := by
 have := pow_pos' n
 exact cost_low h8 _ _ R _ (by omega) (ord_full.2 hR) (adm_rep n R)
theorem bk_small {n : Nat} {l : List NA} (hi : InN n l) {R : List Nat} (hR : Part n 0 R.reverse) : bkR (cnt l) R ≤ l.length := by
 rw [bk_back hi hR, back_len]; exact filter_len_le _ _
theorem size_small {n : Nat} {l : List NA} (h8 : n ≤ 8) (hi : InN n l) : sizeN n l ≤ l.length := by
 have hR : Part n 0 (List.range n).reverse.reverse := by rw [List.reverse_reverse]; exact part_range n
 exact Nat.le_trans (size_low h8 hR) (bk_small hi hR)
theorem dec_zero {n : Nat} {l : List NA} (h8 : n ≤ 8) (hi : InN n l) (hl : l.length < 1048576) : Dec n l 0 (List.replicate n 0) [] where
 len := by simp
 lt := fun w => by rw [atN_rep]; exact pow_pos' n
 asc := List.Pairwise.nil
 below := by simp
 adm := fun R _ => ⟨fun _ j h => by omega, fun _ => adm_rep n R⟩
 some := by
  have := pow_pos' n
  have := size_small h8 hi
  obtain ⟨R, h1, h2, h3⟩ := cost_at h8 (cnt l) (List.replicate n 0) (fun w => by rw [atN_rep]; exact pow_pos' n) (2 ^ n - 1) (by omega) (by have : costN n (cnt l) (List.replicate n 0) (2 ^ n - 1) = sizeN n l := rfl; omega)
  exact ⟨R, ord_full.1 h1, h2, h3⟩
 first := fun R _ _ => .inl fun j h => by omega
theorem adm_or {n : Nat} {fm R : List Nat} {v u : Nat} (hv : v < fm.length) (hf : fm.length = n) (hu : u < n) (hR : Part n 0 R.reverse) : AdmR (fmF (orAt fm v u)) R ↔ AdmR (fmF fm) R ∧ R.reverse.idxOf u < R.reverse.idxOf v := by
 have hn := nodup_rev.1 hR.nd
 have hm : ∀ u, u < n → u ∈ R := fun u hu => List.mem_reverse.1 (Part.mem hR hu)
 rw [adm_iff hn, adm_iff hn]
 simp only [fmF_orAt hv, Bool.or_eq_true, Bool.and_eq_true, decide_eq_true_eq]
 constructor
 ·intro h
  exact ⟨fun w hw x hx => h w hw x (.inl hx), (h v (hm v (by omega)) u (.inr ⟨rfl, rfl⟩)).2⟩
 ·rintro ⟨h1, h2⟩ w hw x (hx | ⟨rfl, rfl⟩)
  ·exact h1 w hw x hx
  ·exact ⟨hm x hu, h2⟩
theorem dec_step {n : Nat} {l : List NA} (h8 : n ≤ 8) (hi : InN n l) (hl : l.length < 1048576) {k : Nat} {a : NA} (ha : l[k]? = some a) {st : List Nat × List Nat} (h : Dec n l k st.1 st.2) :
  Dec n l (k + 1) (decS n (cnt l) (sizeN n l) k a st).1 (decS n (cnt l) (sizeN n l) k a st).2 := by
 obtain ⟨fm, D⟩ := st
 dsimp only at h
 have hin := hi a (List.mem_of_getElem? ha)
 have hkD : k ∉ D := fun hc => by have := h.below k hc; omega
 have hmem : ∀ M : List Nat, k ∈ backL M l ↔ bwd M a = true := fun M => by
  rw [mem_backL]
  constructor
  ·rintro ⟨b, hb, h2⟩
   rw [ha] at hb; cases hb; exact h2
  ·intro h2; exact ⟨a, ha, h2⟩
 have hpos := pow_pos' n
 have hsz := size_small h8 hi
 simp only [decS]
 by_cases c : a.1 = a.2
 ·rw [if_pos c]
  have hnb : ∀ M : List Nat, k ∉ backL M l := fun M hc => bwd_ne ((hmem M).1 hc) c
  have hext : ∀ M : List Nat, (∀ j, j < k + 1 → (j ∈ D ↔ j ∈ backL M l)) ↔ ∀ j, j < k → (j ∈ D ↔ j ∈ backL M l) := fun M => by
   constructor
   ·intro h j hj; exact h j (by omega)
   ·intro h j hj
    rcases Nat.lt_succ_iff_lt_or_eq.1 hj with h1 | rfl
    ·exact h j h1
    ·exact ⟨fun h => (hkD h).elim, fun h => (hnb M h).elim⟩
  exact {
   len := h.len
   lt := h.lt
   asc := h.asc
   below := fun i hi => by have := h.below i hi; omega
   adm := fun R hR => by rw [hext]; exact h.adm R hR
   some := h.some
   first := fun R hR hs => by
    rcases h.first R hR hs with h1 | ⟨j, h1, h2⟩
    ·exact .inl ((hext _).2 h1)
    ·exact .inr ⟨j, by omega, h2⟩ }
 ·rw [if_neg c]
  have hv1 : a.1 < fm.length := by rw [h.len]; exact hin.1
  have hv2 : a.2 < fm.length := by rw [h.len]; exact hin.2
  have hbw : ∀ M : List Nat, bwd M a = true ↔ M.idxOf a.2 < M.idxOf a.1 := fun M => by simp [bwd]
  by_cases c2 : leastN n (cnt l) (orAt fm a.1 a.2) = sizeN n l
  ·rw [if_pos c2]
   have hext : ∀ M : List Nat, (∀ j, j < k + 1 → (j ∈ D ++ [k] ↔ j ∈ backL M l)) ↔ (∀ j, j < k → (j ∈ D ↔ j ∈ backL M l)) ∧ bwd M a = true := fun M => by
    constructor
    ·intro h
     refine ⟨fun j hj => ?_, (hmem M).1 ((h k (by omega)).1 (by simp))⟩
     rw [← h j (by omega)]
     have : j ≠ k := by omega
     simp [this]
    ·rintro ⟨h1, h2⟩ j hj
     rcases Nat.lt_succ_iff_lt_or_eq.1 hj with h3 | rfl
     ·rw [← h1 j h3]
      have : j ≠ k := by omega
      simp [this]
     ·exact ⟨fun _ => (hmem M).2 h2, fun _ => by simp⟩
   exact {
    len := by simp [orAt, h.len]
    lt := orAt_lt hv1 hin.2 h.lt
    asc := List.pairwise_append.2 ⟨h.asc, List.pairwise_singleton _ _, fun x hx y hy => by rw [List.mem_singleton.1 hy]; exact h.below x hx⟩
    below := fun i hi => by
     rcases List.mem_append.1 hi with h1 | h1
     ·have := h.below i h1; omega
     ·rw [List.mem_singleton.1 h1]; omega
    adm := fun R hR => by rw [hext, adm_or hv1 h.len hin.2 hR, h.adm R hR, hbw]
    some := by
     obtain ⟨R, h1, h2, h3⟩ := cost_at h8 (cnt l) (orAt fm a.1 a.2) (orAt_lt hv1 hin.2 h.lt) (2 ^ n - 1) (by omega) (by have e : costN n (cnt l) (orAt fm a.1 a.2) (2 ^ n - 1) = leastN n (cnt l) (orAt fm a.1 a.2) := rfl; omega)
     exact ⟨R, ord_full.1 h1, h2, h3.trans c2⟩
    first := fun R hR hs => by
     rcases h.first R hR hs with h1 | ⟨j, h1, h2, h3, h4⟩
     ·by_cases c3 : bwd R.reverse a = true
      ·exact .inl ((hext _).2 ⟨h1, c3⟩)
      ·refine .inr ⟨k, by omega, by simp, fun hc => c3 ((hmem _).1 hc), fun i hi => ?_⟩
       rw [← h1 i hi]
       have : i ≠ k := by omega
       simp [this]
     ·refine .inr ⟨j, by omega, by simp [h2], h3, fun i hi => ?_⟩
      rw [← h4 i hi]
      have : i ≠ k := by omega
      simp [this] }
  ·rw [if_neg c2]
   have hno : ∀ R : List Nat, Part n 0 R.reverse → AdmR (fmF fm) R → bkR (cnt l) R = sizeN n l → bwd R.reverse a = false := by
    intro R hR hA hs
    cases hb : bwd R.reverse a
    ·rfl
    ·exfalso
     have h1 := (adm_or hv1 h.len hin.2 hR).2 ⟨hA, (hbw _).1 hb⟩
     have h2 := cost_low h8 (cnt l) (orAt fm a.1 a.2) R _ (by omega) (ord_full.2 hR) h1
     have e : costN n (cnt l) (orAt fm a.1 a.2) (2 ^ n - 1) = leastN n (cnt l) (orAt fm a.1 a.2) := rfl
     obtain ⟨R', g1, g2, g3⟩ := cost_at h8 (cnt l) (orAt fm a.1 a.2) (orAt_lt hv1 hin.2 h.lt) (2 ^ n - 1) (by omega) (by omega)
     have := size_low (l := l) h8 (ord_full.1 g1)
     omega
   have hnb : ∀ R : List Nat, Part n 0 R.reverse → (R.reverse.idxOf a.1 < R.reverse.idxOf a.2 ↔ ¬ bwd R.reverse a = true) := fun R hR => by
    rw [hbw]
    have : R.reverse.idxOf a.1 ≠ R.reverse.idxOf a.2 := fun h => c (idx_inj (Part.mem hR hin.1) (Part.mem hR hin.2) h)
    omega
   have hext : ∀ M : List Nat, (∀ j, j < k + 1 → (j ∈ D ↔ j ∈ backL M l)) ↔ (∀ j, j < k → (j ∈ D ↔ j ∈ backL M l)) ∧ ¬ bwd M a = true := fun M => by
    constructor
    ·intro h
     exact ⟨fun j hj => h j (by omega), fun hb => hkD ((h k (by omega)).2 ((hmem M).2 hb))⟩
    ·rintro ⟨h1, h2⟩ j hj
     rcases Nat.lt_succ_iff_lt_or_eq.1 hj with h3 | rfl
     ·exact h1 j h3
     ·exact ⟨fun h => (hkD h).elim, fun h => (h2 ((hmem M).1 h)).elim⟩
   exact {
    len := by simp [orAt, h.len]
    lt := orAt_lt hv2 hin.1 h.lt
    asc := h.asc
    below := fun i hi => by have := h.below i hi; omega
    adm := fun R hR => by rw [hext, adm_or hv2 h.len hin.1 hR, h.adm R hR, hnb R hR]
    some := by
     obtain ⟨R, h1, h2, h3⟩ := h.some
     refine ⟨R, h1, (adm_or hv2 h.len hin.1 h1).2 ⟨h2, (hnb R h1).2 ?_⟩, h3⟩
     rw [hno R h1 h2 h3]; decide
    first := fun R hR hs => by
     rcases h.first R hR hs with h1 | ⟨j, h1, h2⟩
     ·refine .inl ((hext _).2 ⟨h1, ?_⟩)
      rw [hno R hR ((h.adm R hR).2 h1) hs]; decide
     ·exact .inr ⟨j, by omega, h2⟩ }
theorem dec_all {n : Nat} {l : List NA} (h8 : n ≤ 8) (hi : InN n l) (hl : l.length < 1048576) : ∀ k, k ≤ l.length → Dec n l k (decN n (cnt l) (sizeN n l) l k).1 (decN n (cnt l) (sizeN n l) l k).2
 | 0, _ => dec_zero h8 hi hl
 | k + 1, hk => by
  have ha := List.getElem?_eq_getElem (show k < l.length by omega)
  rw [decN, ha]
  exact dec_step h8 hi hl ha (dec_all h8 hi hl k (by omega))
theorem least_back {n : Nat} {l : List NA} (h8 : n ≤ 8) (hi : InN n l) (hl : l.length < 1048576) : ∃ M, Part n 0 M ∧ backL M l = leastS n l := by
 have h := dec_all h8 hi hl l.length (Nat.le_refl _)
 obtain ⟨R, h1, h2, h3⟩ := h.some
 refine ⟨R.reverse, h1, (asc_ext h.asc (asc_filter_range _ _) fun j => ?_).symm⟩
 have h4 := (h.adm R h1).1 h2
 rcases Nat.lt_or_ge j l.length with hj | hj
 ·exact h4 j hj
 ·constructor
  ·intro hc
   have := h.below j hc; omega
  ·intro hc
   obtain ⟨a, ha, _⟩ := mem_backL.1 hc
   have := (List.getElem?_eq_some_iff.1 ha).1; omega
theorem least_len {n : Nat} {l : List NA} (h8 : n ≤ 8) (hi : InN n l) (hl : l.length < 1048576) : (leastS n l).length = sizeN n l := by
 have h := dec_all h8 hi hl l.length (Nat.le_refl _)
 obtain ⟨R, h1, h2, h3⟩ := h.some
 have h4 := (h.adm R h1).1 h2
 rw [← h3, bk_back hi h1]
 congr 1
 refine asc_ext h.asc (asc_filter_range _ _) fun j => ?_
 rcases Nat.lt_or_ge j l.length with hj | hj
 ·exact h4 j hj
 ·constructor
  ·intro hc
   have := h.below j hc; omega
  ·intro hc
   obtain ⟨a, ha, _⟩ := mem_backL.1 hc
   have := (List.getElem?_eq_some_iff.1 ha).1; omega
theorem least_min {n : Nat} {l : List NA} (h8 : n ≤ 8) (hi : InN n l) (hl : l.length < 1048576) {M : List Nat} (hM : Part n 0 M) : lessS (backL M l) (leastS n l) = false := by
 have h := dec_all h8 hi hl l.length (Nat.le_refl _)
 have hR : Part n 0 M.reverse.reverse := by rw [List.reverse_reverse]; exact hM
 have hlen := bk_back hi hR
 have hlow := size_low (l := l) h8 hR
 have hll := least_len h8 hi hl
 rw [List.reverse_reverse] at hlen
 cases hq : lessS (backL M l) (leastS n l) with
 | false => rfl
 | true =>
  have hq' := hq
  rw [lessS] at hq
  by_cases c : (backL M l).length = (leastS n l).length
  ·rcases h.first M.reverse hR (by omega) with h1 | ⟨j, h1, h2, h3, h4⟩
   ·rw [List.reverse_reverse] at h1
    have : leastS n l = backL M l := by
     refine asc_ext h.asc (asc_filter_range _ _) fun j => ?_
     rcases Nat.lt_or_ge j l.length with hj | hj
     ·exact h1 j hj
     ·constructor
      ·intro hc
       have := h.below j hc; omega
      ·intro hc
       obtain ⟨a, ha, _⟩ := mem_backL.1 hc
       have := (List.getElem?_eq_some_iff.1 ha).1; omega
    rw [if_pos c, this, lexLt_irr] at hq
    cases hq
   ·rw [List.reverse_reverse] at h3 h4
    have h5 := lex_first (a := leastS n l) (b := backL M l) h.asc (asc_filter_range _ _) c.symm h2 h3 h4
    rw [if_pos c, lexLt_asymm h5] at hq
    cases hq
  ·rw [if_neg c] at hq
   simp only [decide_eq_true_eq] at hq
   omega
end Go.Cy
