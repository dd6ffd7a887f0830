/- From the readings of a law's arguments to data, and from a law's contract to its row. -/
import Derived.KernelRfl
import Derived.Test.YthbcmebhpabpnaaPSFam
import Derived.ProofKit
import Derived.Carry
import Derived.Deep.Slices
import Derived.SizedLaws
import Derived.OpenShut
set_option linter.unusedSimpArgs false
set_option linter.unusedVariables false
namespace Go.PS
open Go Go.ChangeShapes Go.WideShapes Go.RowKit Go.Deep

def SeqOk (f : TypeId → List D → Prop) : List TypeId → List D → Prop
 | [], cs => cs = []
 | t :: ts, cs => ∃ p r, cs = p ++ r ∧ f t p ∧ SeqOk f ts r

def CellsOk (P : Program) : Nat → TypeId → List D → Prop
 | 0, _, _ => False
 | n + 1, t, cs => match P.underlying t with
  | some (.int k) => ∃ m, cs = [.sc (.int k m)] ∧ (Lit.int k m).wf = true
  | some .bool => ∃ b, cs = [.sc (.bool b)]
  | some (.struct fs) => SeqOk (CellsOk P n) (fs.toList.map (·.type)) cs
  | some (.array k e) => SeqOk (CellsOk P n) (List.replicate k e) cs
  | some (.slice e) => ∃ l : List D, cs = [.sl l] ∧ l.length * P.bytesOf e ≤ reachBytes ∧ ∀ d ∈ l, ∃ es, d = D.ofCells (tyi P e).agg es ∧ es.length = P.cellsOf e ∧ CellsOk P n e es
  | _ => False

def structTys (P : Program) (t : TypeId) : Option (List TypeId) := match P.underlying t with
 | some (.struct fs) => some (fs.toList.map (·.type))
 | _ => none
def sliceTy (P : Program) (t : TypeId) : Option TypeId := match P.underlying t with
 | some (.slice e) => some e
 | _ => none
theorem cells_struct {P : Program} {n : Nat} {t : TypeId} {ts : List TypeId} {cs : List D} (hu : structTys P t = some ts) (h : CellsOk P (n + 1) t cs) : SeqOk (CellsOk P n) ts cs := by
 unfold structTys at hu
 split at hu
 ·rename_i fs hf
  cases hu
  simp only [CellsOk, hf] at h
  exact h
 ·cases hu
theorem cells_slice {P : Program} {n : Nat} {t e : TypeId} {cs : List D} (hu : sliceTy P t = some e) (h : CellsOk P (n + 1) t cs) :
  ∃ l : List D, cs = [.sl l] ∧ ∀ d ∈ l, ∃ es, d = D.ofCells (tyi P e).agg es ∧ es.length = P.cellsOf e ∧ CellsOk P n e es := by
 unfold sliceTy at hu
 split at hu
 ·rename_i e' hf
  cases hu
  simp only [CellsOk, hf] at h
  obtain ⟨l, h1, _, h2⟩ := h
  exact ⟨l, h1, h2⟩
 ·cases hu
theorem cells_sliceS {P : Program} {n : Nat} {t e : TypeId} {cs : List D} (hu : sliceTy P t = some e) (h : CellsOk P (n + 1) t cs) :
  ∃ l : List D, cs = [.sl l] ∧ l.length * P.bytesOf e ≤ reachBytes ∧ ∀ d ∈ l, ∃ es, d = D.ofCells (tyi P e).agg es ∧ es.length = P.cellsOf e ∧ CellsOk P n e es := by
 unfold sliceTy at hu
 split at hu
 ·rename_i e' hf
  cases hu
  simp only [CellsOk, hf] at h
  exact h
 ·cases hu
theorem map_of {α : Type} {f : α → D} : ∀ {l : List D}, (∀ d ∈ l, ∃ a, d = f a) → ∃ ys : List α, l = ys.map f
 | [], _ => ⟨[], rfl⟩
 | d :: l, h => by
  obtain ⟨a, rfl⟩ := h d (by simp)
  obtain ⟨ys, rfl⟩ := map_of (l := l) (fun e he => h e (List.mem_cons_of_mem _ he))
  exact ⟨a :: ys, rfl⟩

def layoutEnd (P : Program) : Nat → List Field → Option Nat
 | k, [] => some k
 | k, f :: fs => if f.offset = k then layoutEnd P (k + P.cellsOf f.type) fs else none

def plainTy (P : Program) : Nat → TypeId → Bool
 | 0, _ => false
 | n + 1, t => match P.underlying t with
  | some (.int _) => P.cellsOf t == 1 && !(tyi P t).agg
  | some .bool => P.cellsOf t == 1 && !(tyi P t).agg
  | some (.struct fs) => fs.toList.all (fun f => plainTy P n f.type) && layoutEnd P 0 fs.toList == some (P.cellsOf t) && (tyi P t).agg
  | some (.slice e) => plainTy P n e && P.cellsOf t == 1 && !(tyi P t).agg && P.cellsOf e != 0
  | some (.array k e) => plainTy P n e && k * P.cellsOf e == P.cellsOf t && (tyi P t).agg
  | _ => false

theorem plainTy_cells {P : Program} : ∀ {n : Nat} {t : TypeId}, plainTy P n t = true → (tyi P t).agg = false → P.cellsOf t = 1 := by
 intro n t h ha
 cases n with
 | zero => simp [plainTy] at h
 | succ n =>
  simp only [plainTy] at h
  split at h <;> simp_all

theorem layoutEnd_le {P : Program} : ∀ (fs : List Field) (k e : Nat), layoutEnd P k fs = some e → k ≤ e := by
 intro fs
 induction fs with
 | nil => intro k e h; simp [layoutEnd] at h; omega
 | cons f fs ih =>
  intro k e h
  simp only [layoutEnd] at h
  split at h
  ·have := ih _ _ h; omega
  ·cases h

section reads
variable {H : Type} {enc : TypeId × Value → H} {P : Program} {w : World} {base : Nat} {spare : Nat → Bool} {held : Bool}

abbrev noX : Nat → Prop := fun _ => False

def Fit (w : World) (ds : List D) (cs : List Value) : Prop := ds.length = cs.length ∧ ∀ (j : Nat) d v, ds[j]? = some d → cs[j]? = some v → D.At w noX d v ∧ v.oneCell' = true

theorem Fit.nil : Fit w [] [] := ⟨rfl, by simp⟩
theorem Fit.append {ds es : List D} {cs vs : List Value} (h1 : Fit w ds cs) (h2 : Fit w es vs) : Fit w (ds ++ es) (cs ++ vs) := by
 refine ⟨by simp [h1.1, h2.1], fun j d v hj hv => ?_⟩
 rw [List.getElem?_append] at hj hv
 rw [h1.1] at hj
 split at hj
 ·rename_i hlt; rw [if_pos hlt] at hv; exact h1.2 j d v hj hv
 ·rename_i hlt; rw [if_neg hlt] at hv; exact h2.2 _ d v hj hv

theorem Fit.cells {es : List D} {vs : List Value} (h : Fit w es vs) : ∀ e ∈ es, e.cells = [e] := by
 intro e he
 obtain ⟨j, hj⟩ := List.getElem?_of_mem he
 have hl := (List.getElem?_eq_some_iff.1 hj).1
 have hv : vs[j]? = some (vs[j]'(by rw [← h.1]; exact hl)) := List.getElem?_eq_getElem _
 obtain ⟨h1, h2⟩ := h.2 j e _ hj hv
 exact h1.single h2

theorem ofCells_cells' {agg : Bool} {es : List D} {vs : List Value} (h : Fit w es vs) (ha : agg = false → es.length = 1) : (D.ofCells agg es).cells = es := by
 unfold D.ofCells
 cases agg with
 | true => rfl
 | false =>
  match es, ha rfl, h with
  | [e], _, h => exact h.cells e (by simp)

def Sized (P : Program) (t : TypeId) (d : DataW H) : Prop := (d.weights P t).all (· ≤ reachBytes) = true
theorem sized_all {e : TypeId} : ∀ {l : List (DataW H)}, (DataW.weightsAll P e l).all (· ≤ reachBytes) = true → ∀ d ∈ l, Sized P e d
 | [], _, d, hd => by cases hd
 | x :: l, h, d, hd => by
  simp only [DataW.weightsAll, List.all_append, Bool.and_eq_true] at h
  rcases List.mem_cons.1 hd with rfl | hd
  ·exact h.1
  ·exact sized_all h.2 d hd
theorem sized_each {ts : List TypeId} {ds : List (DataW H)} (h : (DataW.weightsEach P ts ds).all (· ≤ reachBytes) = true) {j : Nat} {t : TypeId} {d : DataW H} (ht : ts[j]? = some t) (hd : ds[j]? = some d) : Sized P t d :=
 List.all_eq_true.2 fun n hn => List.all_eq_true.1 h n (DataW.weights_mem_each ht hd n hn)
theorem fields_fit {n m : Nat} {cs : List Value} (ih : ∀ (t : TypeId) (cs : List Value) x, plainTy P n t = true → DataW.trod enc P w base spare held m t cs = some x → Sized P t x.1 → ∃ ds, CellsOk P n t ds ∧ Fit w ds cs) :
  ∀ (fs : List Field) (k e : Nat), layoutEnd P k fs = some e → e = cs.length → (∀ f ∈ fs, plainTy P n f.type = true) →
   (∀ f ∈ fs, ∃ x, DataW.trod enc P w base spare held m f.type ((cs.drop f.offset).take (P.cellsOf f.type)) = some x ∧ Sized P f.type x.1) →
   ∃ ds, SeqOk (CellsOk P n) (fs.map (·.type)) ds ∧ Fit w ds (cs.drop k) := by
 intro fs
 induction fs with
 | nil =>
  intro k e h he _ _
  simp only [layoutEnd, Option.some.injEq] at h
  refine ⟨[], rfl, ?_⟩
  rw [List.drop_eq_nil_of_le (by omega)]
  exact Fit.nil
 | cons f fs ihf =>
  intro k e h he hp hr
  simp only [layoutEnd] at h
  split at h
  ·rename_i hoff
   have hle := layoutEnd_le _ _ _ h
   obtain ⟨x, hx, hxs⟩ := hr f (by simp)
   obtain ⟨d1, g1, g2⟩ := ih f.type _ x (hp f (by simp)) hx hxs
   obtain ⟨d2, g3, g4⟩ := ihf _ _ h he (fun f' hf' => hp f' (List.mem_cons_of_mem _ hf')) (fun f' hf' => hr f' (List.mem_cons_of_mem _ hf'))
   refine ⟨d1 ++ d2, ⟨d1, d2, rfl, g1, g3⟩, ?_⟩
   rw [hoff] at g2
   have := g2.append g4
   rw [← List.drop_drop, List.take_append_drop] at this
   exact this
  ·cases h

theorem parts_fit {n m : Nat} {cs : List Value} {e : TypeId} (ih : ∀ (t : TypeId) (cs : List Value) x, plainTy P n t = true → DataW.trod enc P w base spare held m t cs = some x → Sized P t x.1 → ∃ ds, CellsOk P n t ds ∧ Fit w ds cs) (hp : plainTy P n e = true) :
  ∀ (k j : Nat), (k + j) * P.cellsOf e = cs.length →
   (∀ i, i < k + j → ∃ x, DataW.trod enc P w base spare held m e ((cs.drop (i * P.cellsOf e)).take (P.cellsOf e)) = some x ∧ Sized P e x.1) →
   ∃ ds, SeqOk (CellsOk P n) (List.replicate k e) ds ∧ Fit w ds (cs.drop (j * P.cellsOf e)) := by
 intro k
 induction k with
 | zero =>
  intro j h _
  refine ⟨[], rfl, ?_⟩
  rw [List.drop_eq_nil_of_le (by rw [Nat.zero_add] at h; omega)]
  exact Fit.nil
 | succ k ihk =>
  intro j h hr
  obtain ⟨x, hx, hxs⟩ := hr j (by omega)
  obtain ⟨d1, g1, g2⟩ := ih e _ x hp hx hxs
  obtain ⟨d2, g3, g4⟩ := ihk (j + 1) (by rw [← h]; congr 1; omega) (fun i hi => hr i (by omega))
  refine ⟨d1 ++ d2, ⟨d1, d2, rfl, g1, g3⟩, ?_⟩
  have := g2.append g4
  rw [Nat.add_mul, Nat.one_mul, ← List.drop_drop, List.take_append_drop] at this
  exact this
theorem trod_fit : ∀ (n : Nat) (t : TypeId) (m : Nat) (cs : List Value) x, plainTy P n t = true → DataW.trod enc P w base spare held m t cs = some x → Sized P t x.1 → ∃ ds, CellsOk P n t ds ∧ Fit w ds cs := by
 intro n
 induction n with
 | zero => intro t m cs x h; simp [plainTy] at h
 | succ n ih =>
  intro t m cs x hp h hsz
  simp only [plainTy] at hp
  simp only [CellsOk]
  split at hp
  ·rename_i k hu
   simp only [hu]
   obtain ⟨q, rfl, rfl, hw⟩ := DataW.trod_int hu h
   refine ⟨[.sc (.int k q)], ⟨q, rfl, hw⟩, rfl, fun j d v hj hv => ?_⟩
   rcases j with _ | j <;> simp at hj hv
   subst hj; subst hv
   exact ⟨.sc _ rfl, rfl⟩
  ·rename_i hu
   simp only [hu]
   obtain ⟨b, rfl, rfl⟩ := DataW.trod_bool hu h
   refine ⟨[.sc (.bool b)], ⟨b, rfl⟩, rfl, fun j d v hj hv => ?_⟩
   rcases j with _ | j <;> simp at hj hv
   subst hj; subst hv
   exact ⟨.sc _ rfl, rfl⟩
  ·rename_i fs hu
   simp only [hu]
   simp only [Bool.and_eq_true, List.all_eq_true, beq_iff_eq] at hp
   obtain ⟨xs, m', rfl, hxe, hlen, hxl, hf⟩ := DataW.trod_struct hu h
   obtain ⟨ds, g1, g2⟩ := fields_fit (cs := cs) (fun t cs x => ih t m' cs x) fs.toList 0 _ hp.1.2 hlen.symm hp.1.1 (fun f hfm => by
    obtain ⟨i, hi⟩ := List.getElem?_of_mem hfm
    have hi' : fs[i]? = some f := by simpa using hi
    have hil : i < xs.length := by rw [hxl]; exact (Array.getElem?_eq_some_iff.1 hi').1
    refine ⟨xs[i], (hf i f hi').trans (List.getElem?_eq_getElem hil), ?_⟩
    rw [Sized, hxe] at hsz
    simp only [DataW.weights, hu] at hsz
    exact sized_each hsz (j := i) (by rw [List.getElem?_map, hi]; rfl) (by rw [List.getElem?_map, List.getElem?_eq_getElem hil]; rfl))
   exact ⟨ds, g1, by simpa using g2⟩
  ·rename_i e hu
   simp only [hu]
   simp only [Bool.and_eq_true, beq_iff_eq, Bool.not_eq_true', bne_iff_ne, ne_eq] at hp
   obtain ⟨⟨⟨hpe, _⟩, _⟩, hne⟩ := hp
   rcases open_slice hu h with ⟨rfl, rfl⟩ | ⟨a, len, cap, q, m', Dd, Pl, rfl, hb, hl, hm, hq, hxe, hi⟩
   ·refine ⟨[.sl []], ⟨[], rfl, by simp, by simp⟩, rfl, fun j d v hj hv => ?_⟩
    rcases j with _ | j <;> simp at hj hv
    subst hj; subst hv
    exact ⟨.slnil _ _, rfl⟩
   ·have hlq : len ≤ q := by rw [hq]; split <;> omega
    rw [Sized, hxe] at hsz
    simp only [DataW.weights, hu, List.all_cons, Bool.and_eq_true, List.all_append, decide_eq_true_eq, List.length_map, List.length_range] at hsz
    have hszl : len * P.bytesOf e ≤ reachBytes := Nat.le_trans (Nat.mul_le_mul_right _ (Nat.le_add_right _ _)) hsz.1
    have hex : ∀ i, i < len → ∃ es vs, CellsOk P n e es ∧ Fit w es vs ∧ vs.length = P.cellsOf e ∧ ∀ j, j < P.cellsOf e → w.cell? ((a.add (i * P.cellsOf e)).add j) = vs[j]? := by
     intro i hil
     obtain ⟨cs', hc, ht⟩ := hi i (by omega)
     obtain ⟨es, h1, h2⟩ := ih e m' cs' _ hpe ht (sized_all hsz.2.1 _ (List.mem_map.2 ⟨i, List.mem_range.2 hil, rfl⟩))
     obtain ⟨_, hcl, hat⟩ := World.cells?_some hc
     exact ⟨es, cs', h1, h2, hcl, hat⟩
    have hall : ∃ l : List (List D), l.length = len ∧ ∀ i es, l[i]? = some es → ∃ vs, CellsOk P n e es ∧ Fit w es vs ∧ vs.length = P.cellsOf e ∧ ∀ j, j < P.cellsOf e → w.cell? ((a.add (i * P.cellsOf e)).add j) = vs[j]? := by
     have : ∀ k, k ≤ len → ∃ l : List (List D), l.length = k ∧ ∀ i es, l[i]? = some es → ∃ vs, CellsOk P n e es ∧ Fit w es vs ∧ vs.length = P.cellsOf e ∧ ∀ j, j < P.cellsOf e → w.cell? ((a.add (i * P.cellsOf e)).add j) = vs[j]? := by
      intro k
      induction k with
      | zero => intro _; exact ⟨[], rfl, by simp⟩
      | succ k ihk =>
       intro hk
       obtain ⟨l, h1, h2⟩ := ihk (by omega)
       obtain ⟨es, vs, h3⟩ := hex k (by omega)
       refine ⟨l ++ [es], by simp [h1], fun i es' hi' => ?_⟩
       rw [List.getElem?_append] at hi'
       split at hi'
       ·exact h2 i es' hi'
       ·rename_i hge
        have hik : i - l.length = 0 := by
         have := (List.getElem?_eq_some_iff.1 hi').1; simp at this; omega
        rw [hik] at hi'
        simp at hi'
        subst hi'
        have : i = k := by omega
        subst this
        exact ⟨vs, h3⟩
     exact this len (Nat.le_refl _)
    obtain ⟨l, hll, hlat⟩ := hall
    have hagg : (tyi P e).agg = false → P.cellsOf e = 1 := plainTy_cells hpe
    refine ⟨[.sl (l.map (D.ofCells (tyi P e).agg))], ⟨_, rfl, by rw [List.length_map, hll]; exact hszl, fun d hd => ?_⟩, rfl, fun j d v hj hv => ?_⟩
    ·obtain ⟨es, hes, rfl⟩ := List.mem_map.1 hd
     obtain ⟨i, hi'⟩ := List.getElem?_of_mem hes
     obtain ⟨vs, h1, h2, h3, _⟩ := hlat i es hi'
     exact ⟨es, rfl, by rw [h2.1, h3], h1⟩
    ·rcases j with _ | j <;> simp at hj hv
     subst hj; subst hv
     refine ⟨?_, rfl⟩
     by_cases hz : len = 0
     ·subst hz
      have : l = [] := List.eq_nil_of_length_eq_zero hll
      subst this
      exact .slnil _ _
     · -- the address has no spot
      have h0 : a.spot = none := by
       obtain ⟨es, hes⟩ := get_some (l := l) (k := 0) (by omega)
       obtain ⟨vs, h1, h2, h3, h4⟩ := hlat 0 es hes
       have hc := h4 0 (by omega)
       have hv : vs[0]? = some (vs[0]'(by omega)) := List.getElem?_eq_getElem _
       rw [hv] at hc
       simp only [Nat.zero_mul] at hc
       unfold World.cell? at hc
       split at hc
       ·split at hc
        ·cases hc
        ·rename_i hs
         cases hsp : a.spot with
         | none => rfl
         | some s => simp [Addr.add, hsp] at hs
       ·cases hc
      obtain ⟨b, off, sp⟩ := a
      simp only at h0
      subst h0
      have hadd : ∀ i j, ((⟨b, off, none⟩ : Addr).add i).add j = ⟨b, off + i + j, none⟩ := fun i j => by rw [add_at, add_at]
      have := D.At.sl (w := w) (X := noX) (l.map (D.ofCells (tyi P e).agg)) b off cap (P.cellsOf e) (by simp [hll, hl]) hm (fun d hd => by
        obtain ⟨es, hes, rfl⟩ := List.mem_map.1 hd
        obtain ⟨i, hi'⟩ := List.getElem?_of_mem hes
        obtain ⟨vs, h1, h2, h3, _⟩ := hlat i es hi'
        rw [ofCells_cells' h2 (fun h => by rw [h2.1, h3]; exact hagg h), h2.1, h3])
       (fun i j => (w.cell? ⟨b, off + i * P.cellsOf e + j, none⟩).getD undef)
       (fun i d j c hi' hj => by
        rw [List.getElem?_map] at hi'
        cases hes : l[i]? with
        | none => rw [hes] at hi'; cases hi'
        | some es =>
         rw [hes] at hi'; cases hi'
         obtain ⟨vs, h1, h2, h3, h4⟩ := hlat i es hes
         rw [ofCells_cells' h2 (fun h => by rw [h2.1, h3]; exact hagg h)] at hj
         have hjl := (List.getElem?_eq_some_iff.1 hj).1
         rw [h2.1, h3] at hjl
         have hv : vs[j]? = some (vs[j]'(by omega)) := List.getElem?_eq_getElem _
         have hc := h4 j hjl
         rw [hadd, hv] at hc
         rw [hc]
         exact ⟨rfl, (h2.2 j c _ hj hv).2, fun h => h⟩)
       (fun i d j c hi' hj => by
        rw [List.getElem?_map] at hi'
        cases hes : l[i]? with
        | none => rw [hes] at hi'; cases hi'
        | some es =>
         rw [hes] at hi'; cases hi'
         obtain ⟨vs, h1, h2, h3, h4⟩ := hlat i es hes
         rw [ofCells_cells' h2 (fun h => by rw [h2.1, h3]; exact hagg h)] at hj
         have hjl := (List.getElem?_eq_some_iff.1 hj).1
         rw [h2.1, h3] at hjl
         have hv : vs[j]? = some (vs[j]'(by omega)) := List.getElem?_eq_getElem _
         have hc := h4 j hjl
         rw [hadd, hv] at hc
         rw [hc]
         exact (h2.2 j c _ hj hv).1)
      simp only [List.length_map, hll] at this
      exact this
  ·rename_i k e hu
   simp only [hu]
   simp only [Bool.and_eq_true, beq_iff_eq] at hp
   obtain ⟨xs, m', rfl, hxe, hlen, hxl, hf⟩ := DataW.trod_array hu h
   obtain ⟨ds, g1, g2⟩ := parts_fit (cs := cs) (fun t cs x => ih t m' cs x) hp.1.1 k 0 (by rw [Nat.add_zero, hp.1.2, hlen]) (fun i hi => by
    have hil : i < xs.length := by omega
    refine ⟨xs[i], (hf i (by omega)).trans (List.getElem?_eq_getElem hil), ?_⟩
    rw [Sized, hxe] at hsz
    simp only [DataW.weights, hu] at hsz
    exact sized_all hsz _ (List.mem_map.2 ⟨xs[i], List.getElem_mem hil, rfl⟩))
   exact ⟨ds, g1, by simpa using g2⟩
  ·cases hp

theorem okWide_array {r : Reach} {b0 : Nat} {t : TypeId} {v : Value} {k : Nat} {e : TypeId} (ht : P.underlying t = some (.array k e)) (h : Value.okWide P w r b0 t v) : ∃ cs, v = .agg cs ∧ cs.size = P.cellsOf t := by
 unfold Value.okWide at h
 rw [ht] at h
 obtain ⟨cs, h1, h2, _⟩ := h
 exact ⟨cs, h1, h2⟩
def ArgOk (P : Program) (t : TypeId) (x : D) : Prop := ∃ cs, CellsOk P 8 t cs ∧ x = D.ofCells (tyi P t).agg cs

theorem arg_fit {r : Reach} {b0 : Nat} {t : TypeId} {v : Value} {d : DataW H} {p : List MemPlace} (hp : plainTy P 8 t = true) (hv : Value.okWide P w r b0 t v) (h : DataW.Trod enc P w base spare held t v d p) (hsz : Sized P t d) :
  ∃ x, ArgOk P t x ∧ D.At w noX x v := by
 obtain ⟨fuel, hf⟩ := h
 obtain ⟨ds, h1, h2⟩ := trod_fit 8 t fuel _ _ hp hf hsz
 refine ⟨_, ⟨ds, h1, rfl⟩, ?_⟩
 replace hp : plainTy P (7 + 1) t = true := hp
 rw [plainTy] at hp
 split at hp
 ·rename_i k hu
  simp only [Bool.and_eq_true, beq_iff_eq, Bool.not_eq_true'] at hp
  obtain ⟨q, rfl⟩ := okWide_int hu hv
  have hl := h2.1
  match ds, hl, h2 with
  | [e], _, h2 => rw [hp.2]; exact (h2.2 0 e _ rfl rfl).1
 ·rename_i hu
  simp only [Bool.and_eq_true, beq_iff_eq, Bool.not_eq_true'] at hp
  obtain ⟨q, rfl⟩ := okWide_bool hu hv
  have hl := h2.1
  match ds, hl, h2 with
  | [e], _, h2 => rw [hp.2]; exact (h2.2 0 e _ rfl rfl).1
 ·rename_i fs hu
  simp only [Bool.and_eq_true] at hp
  obtain ⟨cs, rfl, hsz⟩ := okWide_struct hu hv
  rw [hp.2]
  have hl : ds.length = cs.size := by have := h2.1; simpa [Value.cells] using this
  refine .ag ds cs hl.symm (fun j v hj => ?_) (fun j e v hj hv => ?_)
  ·have hjl := (Array.getElem?_eq_some_iff.1 hj).1
   exact (h2.2 j _ v (List.getElem?_eq_getElem (by omega)) (by simpa [Value.cells] using hj)).2
  ·exact (h2.2 j e v hj (by simpa [Value.cells] using hv)).1
 ·rename_i e hu
  simp only [Bool.and_eq_true, beq_iff_eq, Bool.not_eq_true'] at hp
  obtain ⟨a, len, cap, rfl⟩ := okWide_slice hu hv
  have hl := h2.1
  match ds, hl, h2 with
  | [e], _, h2 => rw [hp.1.2]; exact (h2.2 0 e _ rfl rfl).1
 ·rename_i k e hu
  simp only [Bool.and_eq_true] at hp
  obtain ⟨cs, rfl, hsz⟩ := okWide_array hu hv
  rw [hp.2]
  have hl : ds.length = cs.size := by have := h2.1; simpa [Value.cells] using this
  refine .ag ds cs hl.symm (fun j v hj => ?_) (fun j e v hj hv => ?_)
  ·have hjl := (Array.getElem?_eq_some_iff.1 hj).1
   exact (h2.2 j _ v (List.getElem?_eq_getElem (by omega)) (by simpa [Value.cells] using hj)).2
  ·exact (h2.2 j e v hj (by simpa [Value.cells] using hv)).1
 ·cases hp

theorem args_fit {r : Reach} {b0 : Nat} : ∀ (ts : List TypeId) (vs : List Value) (ds : List (DataW H)) (p : List MemPlace), (∀ t ∈ ts, plainTy P 8 t = true) → (∀ (j : Nat) t v, ts[j]? = some t → vs[j]? = some v → Value.okWide P w r b0 t v) →
  DataW.TrodAll enc P w base spare held ts vs ds p → (∀ (j : Nat) t d, ts[j]? = some t → ds[j]? = some d → Sized P t d) → ∃ xs : List D, xs.length = ts.length ∧ vs.length = ts.length ∧ ds.length = ts.length ∧ (∀ (j : Nat) t x, ts[j]? = some t → xs[j]? = some x → ArgOk P t x) ∧ ∀ (j : Nat) x v, xs[j]? = some x → vs[j]? = some v → D.At w noX x v := by
 intro ts
 induction ts with
 | nil =>
  intro vs ds p _ _ h _
  cases vs <;> cases ds <;> simp [DataW.TrodAll] at h
  exact ⟨[], rfl, rfl, rfl, by simp, by simp⟩
 | cons t ts ih =>
  intro vs ds p hp hv h hsz
  cases vs with
  | nil => simp [DataW.TrodAll] at h
  | cons v vs =>
   cases ds with
   | nil => simp [DataW.TrodAll] at h
   | cons d ds =>
    obtain ⟨p1, q1, h1, h2, _⟩ := h
    obtain ⟨x, g1, g2⟩ := arg_fit (hp t (by simp)) (hv 0 t v rfl rfl) h1 (hsz 0 t d rfl rfl)
    obtain ⟨xs, e1, e2, e3, e4, e5⟩ := ih vs ds q1 (fun t' ht' => hp t' (List.mem_cons_of_mem _ ht')) (fun j t' v' hj hv' => hv (j + 1) t' v' (by simpa using hj) (by simpa using hv')) h2 (fun j t' d' hj hd' => hsz (j + 1) t' d' (by simpa using hj) (by simpa using hd'))
    refine ⟨x :: xs, by simp [e1], by simp [e2], by simp [e3], fun j t' x' hj hx => ?_, fun j x' v' hj hv' => ?_⟩
    ·cases j with
     | zero => simp at hj hx; subst hj; subst hx; exact g1
     | succ j => exact e4 j t' x' (by simpa using hj) (by simpa using hx)
    ·cases j with
     | zero => simp at hj hv'; subst hj; subst hv'; exact g2
     | succ j => exact e5 j x' v' (by simpa using hj) (by simpa using hv')

theorem args_stay (hl : laidOutB P = true) {W W' : World} (hb : Below W.heap.size W W') : ∀ (ts : List TypeId) (vs : List Value) (ds : List (DataW H)) (p : List MemPlace), (∀ t ∈ ts, P.readableRec t = true ∧ t < P.types.size) → (∀ x ∈ p, x.block < W.heap.size) →
  DataW.TrodAll enc P W 0 (fun _ => true) true ts vs ds p → DataW.TrodAll enc P W' 0 (fun b => decide (b < W.heap.size)) true ts vs ds p := by
 intro ts
 induction ts with
 | nil => intro vs ds p _ _ h; cases vs <;> cases ds <;> simp [DataW.TrodAll] at h ⊢; exact h
 | cons t ts ih =>
  intro vs ds p hr hlt h
  cases vs with
  | nil => simp [DataW.TrodAll] at h
  | cons v vs =>
   cases ds with
   | nil => simp [DataW.TrodAll] at h
   | cons d ds =>
    obtain ⟨p1, q1, h1, h2, rfl⟩ := h
    exact ⟨p1, q1, Below.trod hl (hr t (by simp)).1 (hr t (by simp)).2 h1 hb (fun x hx => hlt x (by simp [hx])), ih vs ds q1 (fun t' ht' => hr t' (List.mem_cons_of_mem _ ht')) (fun x hx => hlt x (by simp [hx])) h2, rfl⟩

theorem law_lifted {a : Assume} {C : Checked} {os : Os} {f : FuncId} {fn : Func} {s : ChangeSpec} {tb : TypeId}
  (own : ownKnob C.prog.godebug = none) (started : os.Started) (noInit : C.prog.inits.idxOf? f = none) (hfn : C.prog.funcs[f]? = some fn)
  (witness : ∃ (w : World) (tape : Tape) (i : Input), w.os = os ∧ (w.forCall tape i).Shaped C.prog ∧ i.vars = [] ∧ Input.okWide C.prog (w.forCall tape i) .any w.heap.size f i ∧
   s.pre6 enc C.prog fn [] false (w.forCall tape i).memory i.args ∧ a.holds C.prog (lone (Frame.enter C.prog f i.args .normal) [] (w.forCall tape i)))
  (hl : laidOutB C.prog = true) (hpl : (fn.params.toList.all fun t => plainTy C.prog 8 t && C.prog.readableRec t && decide (t < C.prog.types.size)) = true)
  (hres : fn.resultTypes = #[tb]) (hbool : C.prog.underlying tb = some .bool) (hvars : s.vars = [])
  (hs : ∀ ds : List (DataW H), ds.length = fn.params.size → s.fn H ds = { results := [.lit (.bool true)], args := ds })
  (hcall : ∀ xs : List D, xs.length = fn.params.size → (∀ (j : Nat) t x, fn.params[j]? = some t → xs[j]? = some x → ArgOk C.prog t x) → CallsTo C.prog f xs (.bool true)) (htabs : tabs C.prog = [] := by kernel_rfl) :
  ReturnsInHanded a C os f .any (s.pre6 enc C.prog fn [] false) (s.post enc C.prog fn false true false false) := by
 refine returnsInHanded_of_change_sized own started noInit hfn witness ?_
 intro W base' args ds gs before hval hW _ hwt _
 have hW' := hW
 obtain ⟨p, q, hA, hV, rfl, _, _⟩ := hW
 rw [hvars] at hV
 obtain ⟨rfl, rfl⟩ := trodVars_none hV
 simp only [List.all_eq_true, Bool.and_eq_true, decide_eq_true_eq] at hpl
 obtain ⟨xs, h1, h2, h3, h4, h5⟩ := args_fit fn.params.toList args.toList ds p (fun t ht => (hpl t ht).1.1) (fun j t v hj hv => hval j t v (by simpa using hj) (by simpa using hv)) hA (fun j t d hj hd => sized_each hwt (j := j) (by rw [List.getElem?_append_left (List.getElem?_eq_some_iff.1 hj).1]; exact hj) (by rw [List.append_nil]; exact hd))
 have hc := hcall xs (by simpa using h1) (fun j t x hj hx => h4 j t x (by simpa using hj) hx)
 refine Calls.mono (hc.2 W noX args (fun b hb => hb.elim) ⟨by simp at h1 h2; omega, fun j d v hj hv => h5 j d v hj (by simpa using hv)⟩ (by rw [htabs]; intro q hq; cases hq)) ?_
 rintro e W' ⟨v, rfl, hv, hb⟩
 refine ⟨v, rfl, ?_⟩
 cases hv
 have hlt : ∀ x ∈ p, x.block < W.heap.size := fun x hx => hW'.lt x (by simpa using hx)
 have hfn2 := hs ds (by simpa using h3)
 refine ⟨ds, [], p ++ [], [], p, [], hW', ?_, ?_, ?_, World.keptBut_mono (fun x hx => ⟨hx, .inr (.inl (by simpa using hx))⟩) (hb.frame (· ∈ p ++ [])), (fun h => by cases h)⟩
 ·rw [List.append_nil, hfn2, hres]
  exact ⟨[], [], ⟨1, by simp [DataW.trod, Value.cells, hbool]⟩, rfl, rfl⟩
 ·rw [List.append_nil, hfn2]
  exact args_stay hl hb _ _ _ _ (fun t ht => ⟨(hpl t ht).1.2, (hpl t ht).2⟩) hlt hA
 ·rw [hvars, List.append_nil, hfn2]
  rfl
end reads
end Go.PS
