/- From the readings of a law's arguments to data, and from a law's contract to its row. -/
import Derived.Test.YtldbcbclhpcofaaPSFam
import Derived.ProofKit
import Derived.Carry
import Derived.Deep.Slices
import Derived.SizedLaws
import Derived.OpenShut
set_option linter.unusedSimpArgs false
set_option linter.unusedVariables false
namespace Go.PS
open Go Go.ChangeShapes Go.WideShapes Go.RowKit Go.Deep

def SeqOk (f : TypeId → List D → Prop) : List TypeId → List D → Prop
 | [], cs => cs = []
 | t :: ts, cs => ∃ p r, cs = p ++ r ∧ f t p ∧ SeqOk f ts r

def CellsOk (P : Program) : Nat → TypeId → List D → Prop
 | 0, _, _ => False
 | n + 1, t, cs => match P.underlying t with
  | some (.int k) => ∃ m, cs = [.sc (.int k m)] ∧ (Lit.int k m).wf = true
  | some .bool => ∃ b, cs = [.sc (.bool b)]
  | some (.struct fs) => SeqOk (CellsOk P n) (fs.toList.map (·.type)) cs
  | some (.array k e) => SeqOk (CellsOk P n) (List.replicate k e) cs
  | some (.slice e) => ∃ l : List D, cs = [.sl l] ∧ l.length * P.bytesOf e ≤ reachBytes ∧ ∀ d ∈ l, ∃ es, d = D.ofCells (tyi P e).agg es ∧ es.length = P.cellsOf e ∧ CellsOk P n e es
  | _ => False

def structTys (P : Program) (t : TypeId) : Option (List TypeId) := match P.underlying t with
 | some (.struct fs) => some (fs.toList.map (·.type))
 | _ => none
def sliceTy (P : Program) (t : TypeId) : Option TypeId := match P.underlying t with
 | some (.slice e) => some e
 | _ => none
theorem cells_struct {P : Program} {n : Nat} {t : TypeId} {ts : List TypeId} {cs : List D} (hu : structTys P t = some ts) (h : CellsOk P (n + 1) t cs) : SeqOk (CellsOk P n) ts cs := by
 unfold structTys at hu
 split at hu
 ·rename_i fs hf
  cases hu
  simp only [CellsOk, hf] at h
  exact h
 ·cases hu
theorem cells_slice {P : Program} {n : Nat} {t e : TypeId} {cs : List D} (hu : sliceTy P t = some e) (h : CellsOk P (n + 1) t cs) :
  ∃ l : List D, cs = [.sl l] ∧ ∀ d ∈ l, ∃ es, d = D.ofCells (tyi P e).agg es ∧ es.length = P.cellsOf e ∧ CellsOk P n e es := by
 unfold sliceTy at hu
 split at hu
 ·rename_i e' hf
  cases hu
  simp only [CellsOk, hf] at h
  obtain ⟨l, h1, _, h2⟩ := h
  exact ⟨l, h1, h2⟩
 ·cases hu
theorem cells_sliceS {P : Program} {n : Nat} {t e : TypeId} {cs : List D} (hu : sliceTy P t = some e) (h : CellsOk P (n + 1) t cs) :
  ∃ l : List D, cs = [.sl l] ∧ l.length * P.bytesOf e ≤ reachBytes ∧ ∀ d ∈ l, ∃ es, d = D.ofCells (tyi P e).agg es ∧ es.length = P.cellsOf e ∧ CellsOk P n e es := by
 unfold sliceTy at hu
 split at hu
 ·rename_i e' hf
  cases hu
  simp only [CellsOk, hf] at h
  exact h
 ·cases hu
theorem map_of {α : Type} {f : α → D} : ∀ {l : List D}, (∀ d ∈ l, ∃ a, d = f a) → ∃ ys : List α, l = ys.map f
 | [], _ => ⟨[], rfl⟩
 | d :: l, h => by
  obtain ⟨a, rfl⟩ := h d (by simp)
  obtain ⟨ys, rfl⟩ := map_of (l := l) (fun e he => h e (List.mem_cons_of_mem _ he))
  exact ⟨a :: ys, rfl⟩

def layoutEnd (P : Program) : Nat → List Field → Option Nat
 | k, [] => some k
 | k, f :: fs => if f.offset = k then layoutEnd P (k + P.cellsOf f.type) fs else none

def plainTy (P : Program) : Nat → TypeId → Bool
 | 0, _ => false
 | n + 1, t => match P.underlying t with
  | some (.int _) => P.cellsOf t == 1 && !(tyi P t).agg
  | some .bool => P.cellsOf t == 1 && !(tyi P t).agg
  | some (.struct fs) => fs.toList.all (fun f => plainTy P n f.type) && layoutEnd P 0 fs.toList == some (P.cellsOf t) && (tyi P t).agg
  | some (.slice e) => plainTy P n e && P.cellsOf t == 1 && !(tyi P t).agg && P.cellsOf e != 0
  | some (.array k e) => plainTy P n e && k * P.cellsOf e == P.cellsOf t && (tyi P t).agg
  | _ => false

theorem plainTy_cells {P : Program} : ∀ {n : Nat} {t : TypeId}, plainTy P n t = true → (tyi P t).agg = false → P.cellsOf t = 1 := by
 intro n t h ha
 cases n with
 | zero => simp [plainTy] at h
 | succ n =>
  simp only [plainTy] at h
  split at h <;> simp_all

theorem layoutEnd_le {P : Program} : ∀ (fs : List Field) (k e : Nat), layoutEnd P k fs = some e → k ≤ e := by
 intro fs
 induction fs with
 | nil => intro k e h; simp [layoutEnd] at h; omega
 | cons f fs ih =>
  intro k e h
  simp only [layoutEnd] at h
  split at h
  ·have := ih _ _ h; omega
  ·cases h

section reads
variable {H : Type} {enc : TypeId × Value → H} {P : Program} {w : World} {base : Nat} {spare : Nat → Bool} {held : Bool}

abbrev noX : Nat → Prop := fun _ => False

def Fit (w : World) (ds : List D) (cs : List Value) : Prop := ds.length = cs.length ∧ ∀ (j : Nat) d v, ds[j]? = some d → cs[j]? = some v → D.At w noX d v ∧ v.oneCell' = true

theorem Fit.nil : Fit w [] [] := ⟨rfl, by simp⟩
theorem Fit.append {ds es : List D} {cs vs : List Value} (h1 : Fit w ds cs) (h2 : Fit w es vs) : Fit w (ds ++ es) (cs ++ vs) := by
 refine ⟨by simp [h1.1, h2.1], fun j d v hj hv => ?_⟩
 rw [List.getElem?_append] at hj hv
 rw [h1.1] at hj
 split at hj
 ·rename_i hlt; rw [if_pos hlt] at hv; exact h1.2 j d v hj hv
 ·rename_i hlt; rw [if_neg hlt] at hv; exact h2.2 _ d v hj hv

theorem Fit.cells {es : List D} {vs : List Value} (h : Fit w es vs) : ∀ e ∈ es, e.cells = [e] := by
 intro e he
 obtain ⟨j, hj⟩ := List.getElem?_of_mem he
 have hl := (List.getElem?_eq_some_iff.1 hj).1
 have hv : vs[j]? = some (vs[j]'(by rw [← h.1]; exact hl)) := List.getElem?_eq_getElem _
 obtain ⟨h1, h2⟩ := h.2 j e _ hj hv
 exact h1.single h2

theorem ofCells_cells' {agg : Bool} {es : List D} {vs : List Value} (h : Fit w es vs) (ha : agg = false → es.length = 1) : (D.ofCells agg es).cells = es := by
 unfold D.ofCells
 cases agg with
 | true => rfl
 | false =>
  match es, ha rfl, h with
  | [e], _, h => exact h.cells e (by simp)

def Sized (P : Program) (t : TypeId) (d : DataW H) : Prop := (d.weights P t).all (· ≤ reachBytes) = true
theorem sized_all {e : TypeId} : ∀ {l : List (DataW H)}, (DataW.weightsAll P e l).all (· ≤ reachBytes) = true → ∀ d ∈ l, Sized P e d
 | [], _, d, hd => by cases hd
 | x :: l, h, d, hd => by
  simp only [DataW.weightsAll, List.all_append, Bool.and_eq_true] at h
  rcases List.mem_cons.1 hd with rfl | hd
  ·exact h.1
  ·exact sized_all h.2 d hd
theorem sized_each {ts : List TypeId} {ds : List (DataW H)} (h : (DataW.weightsEach P ts ds).all (· ≤ reachBytes) = true) {j : Nat} {t : TypeId} {d : DataW H} (ht : ts[j]? = some t) (hd : ds[j]? = some d) : Sized P t d :=
 List.all_eq_true.2 fun n hn => List.all_eq_true.1 h n (DataW.weights_mem_each ht hd n hn)
theorem fields_fit {n m : Nat} {cs : List Value} (ih : ∀ (t : TypeId) (cs : List Value) x, plainTy P n t = true → DataW.trod enc P w base spare held m t cs = some x → Sized P t x.1 → ∃ ds, CellsOk P n t ds ∧ Fit w ds cs) :
  ∀ (fs : List Field) (k e : Nat), layoutEnd P k fs = some e → e = cs.length → (∀ f ∈ fs, plainTy P n f.type = true) →
   (∀ f ∈ fs, ∃ x, DataW.trod enc P w base spare held m f.type ((cs.drop f.offset).take (P.cellsOf f.type)) = some x ∧ Sized P f.type x.1) →
   ∃ ds, SeqOk (CellsOk P n) (fs.map (·.type)) ds ∧ Fit w ds (cs.drop k) := by
 intro fs
 induction fs with
 | nil =>
  intro k e h he _ _
  simp only [layoutEnd, Option.some.injEq] at h
  refine ⟨[], rfl, ?_⟩
  rw [List.drop_eq_nil_of_le (by omega)]
  exact Fit.nil
 | cons f fs ihf =>
  intro k e h he hp hr
  simp only [layoutEnd] at h
  split at h
  ·rename_i hoff
   have hle := layoutEnd_le _ _ _ h
   obtain ⟨x, hx, hxs⟩ := hr f (by simp)
   obtain ⟨d1, g1, g2⟩ := ih f.type _ x (hp f (by simp)) hx hxs
   obtain ⟨d2, g3, g4⟩ := ihf _ _ h he (fun f' hf' => hp f' (List.mem_cons_of_mem _ hf')) (fun f' hf' => hr f' (List.mem_cons_of_mem _ hf'))
   refine ⟨d1 ++ d2, ⟨d1, d2, rfl, g1, g3⟩, ?_⟩
   rw [hoff] at g2
   have := g2.append g4
   rw [← List.drop_drop, List.take_append_drop] at this
   exact this
  ·cases h

theorem parts_fit {n m : Nat} {cs : List Value} {e : TypeId} (ih : ∀ (t : TypeId) (cs : List Value) x, plainTy P n t = true → DataW.trod enc P w base spare held m t cs = some x → Sized P t x.1 → ∃ ds, CellsOk P n t ds ∧ Fit w ds cs) (hp : plainTy P n e = true) :
  ∀ (k j : Nat), (k + j) * P.cellsOf e = cs.length →
   (∀ i, i < k + j → ∃ x, DataW.trod enc P w base spare held m e ((cs.drop (i * P.cellsOf e)).take (P.cellsOf e)) = some x ∧ Sized P e x.1) →
   ∃ ds, SeqOk (CellsOk P n) (List.replicate k e) ds ∧ Fit w ds (cs.drop (j * P.cellsOf e)) := by
 intro k
 induction k with
 | zero =>
  intro j h _
  refine ⟨[], rfl, ?_⟩
  rw [List.drop_eq_nil_of_le (by rw [Nat.zero_add] at h; omega)]
  exact Fit.nil
 | succ k ihk =>
  intro j h hr
  obtain ⟨x, hx, hxs⟩ := hr j (by omega)
  obtain ⟨d1, g1, g2⟩ := ih e _ x hp hx hxs
  obtain ⟨d2, g3, g4⟩ := ihk (j + 1) (by rw [← h]; congr 1; omega) (fun i hi => hr i (by omega))
  refine ⟨d1 ++ d2, ⟨d1, d2, rfl, g1, g3⟩, ?_⟩
  have := g2.append g4
  rw [Nat.add_mul, Nat.one_mul, ← List.drop_drop, List.take_append_drop] at this
  exact this
theorem trod_fit : ∀ (n : Nat) (t : TypeId) (m : Nat) (cs : List Value) x, plainTy P n t = true → DataW.trod enc P w base spare held m t cs = some x → Sized P t x.1 → ∃ ds, CellsOk P n t ds ∧ Fit w ds cs := by
 intro n
 induction n with
 | zero => intro t m cs x h; simp [plainTy] at h
 | succ n ih =>
  intro t m cs x hp h hsz
  simp only [plainTy] at hp
  simp only [CellsOk]
  split at hp
  ·rename_i k hu
   simp only [hu]
   obtain ⟨q, rfl, rfl, hw⟩ := DataW.trod_int hu h
   refine ⟨[.sc (.int k q)], ⟨q, rfl, hw⟩, rfl, fun j d v hj hv => ?_⟩
   rcases j with _ | j <;> simp at hj hv
   subst hj; subst hv
   exact ⟨.sc _ rfl, rfl⟩
  ·rename_i hu
   simp only [hu]
   obtain ⟨b, rfl, rfl⟩ := DataW.trod_bool hu h
   refine ⟨[.sc (.bool b)], ⟨b, rfl⟩, rfl, fun j d v hj hv => ?_⟩
   rcases j with _ | j <;> simp at hj hv
   subst hj; subst hv
   exact ⟨.sc _ rfl, rfl⟩
  ·rename_i fs hu
   simp only [hu]
   simp only [Bool.and_eq_true, List.all_eq_true, beq_iff_eq] at hp
   obtain ⟨xs, m', rfl, hxe, hlen, hxl, hf⟩ := DataW.trod_struct hu h
   obtain ⟨ds, g1, g2⟩ := fields_fit (cs := cs) (fun t cs x => ih t m' cs x) fs.toList 0 _ hp.1.2 hlen.symm hp.1.1 (fun f hfm => by
    obtain ⟨i, hi⟩ := List.getElem?_of_mem hfm
    have hi' : fs[i]? = some f := by simpa using hi
    have hil : i < xs.length := by rw [hxl]; exact (Array.getElem?_eq_some_iff.1 hi').1
    refine ⟨xs[i], (hf i f hi').trans (List.getElem?_eq_getElem hil), ?_⟩
    rw [Sized, hxe] at hsz
    simp only [DataW.weights, hu] at hsz
    exact sized_each hsz (j := i) (by rw [List.getElem?_map, hi]; rfl) (by rw [List.getElem?_map, List.getElem?_eq_getElem hil]; rfl))
   exact ⟨ds, g1, by simpa using g2⟩
  ·rename_i e hu
   simp only [hu]
   simp only [Bool.and_eq_true, beq_iff_eq, Bool.not_eq_true', bne_iff_ne, ne_eq] at hp
   obtain ⟨⟨⟨hpe, _⟩, _⟩, hne⟩ := hp
   rcases open_slice hu h with ⟨rfl, rfl⟩ | ⟨a, len, cap, q, m', Dd, Pl, rfl, hb, hl, hm, hq, hxe, hi⟩
   ·refine ⟨[.sl []], ⟨[], rfl, by simp, by simp⟩, rfl, fun j d v hj hv => ?_⟩
    rcases j with _ | j <;> simp at hj hv
    subst hj; subst hv
    exact ⟨.slnil _ _, rfl⟩
   ·have hlq : len ≤ q := by rw [hq]; split <;> omega
    rw [Sized, hxe] at hsz
    simp only [DataW.weights, hu, List.all_cons, Bool.and_eq_true, List.all_append, decide_eq_true_eq, List.length_map, List.length_range] at hsz
    have hszl : len * P.bytesOf e ≤ reachBytes := Nat.le_trans (Nat.mul_le_mul_right _ (Nat.le_add_right _ _)) hsz.1
    have hex : ∀ i, i < len → ∃ es vs, CellsOk P n e es ∧ Fit w es vs ∧ vs.length = P.cellsOf e ∧ ∀ j, j < P.cellsOf e → w.cell? ((a.add (i * P.cellsOf e)).add j) = vs[j]? := by
     intro i hil
     obtain ⟨cs', hc, ht⟩ := hi i (by omega)
     obtain ⟨es, h1, h2⟩ := ih e m' cs' _ hpe ht (sized_all hsz.2.1 _ (List.mem_map.2 ⟨i, List.mem_range.2 hil, rfl⟩))
     obtain ⟨_, hcl, hat⟩ := World.cells?_some hc
     exact ⟨es, cs', h1, h2, hcl, hat⟩
    have hall : ∃ l : List (List D), l.length = len ∧ ∀ i es, l[i]? = some es → ∃ vs, CellsOk P n e es ∧ Fit w es vs ∧ vs.length = P.cellsOf e ∧ ∀ j, j < P.cellsOf e → w.cell? ((a.add (i * P.cellsOf e)).add j) = vs[j]? := by
     have : ∀ k, k ≤ len → ∃ l : List (List D), l.length = k ∧ ∀ i es, l[i]? = some es → ∃ vs, CellsOk P n e es ∧ Fit w es vs ∧ vs.length = P.cellsOf e ∧ ∀ j, j < P.cellsOf e → w.cell? ((a.add (i * P.cellsOf e)).add j) = vs[j]? := by
      intro k
      induction k with
      | zero => intro _; exact ⟨[], rfl, by simp⟩
      | succ k ihk =>
       intro hk
       obtain ⟨l, h1, h2⟩ := ihk (by omega)
       obtain ⟨es, vs, h3⟩ := hex k (by omega)
       refine ⟨l ++ [es], by simp [h1], fun i es' hi' => ?_⟩
       rw [List.getElem?_append] at hi'
       split at hi'
       ·exact h2 i es' hi'
       ·rename_i hge
        have hik : i - l.length = 0 := by
         have := (List.getElem?_eq_some_iff.1 hi').1; simp at this; omega
        rw [hik] at hi'
        simp at hi'
        subst hi'
        have : i = k := by omega
        subst this
        exact ⟨vs, h3⟩
     exact this len (Nat.le_refl _)
    obtain ⟨l, hll, hlat⟩ := hall
    have hagg : (tyi P e).agg = false → P.cellsOf e = 1 := plainTy_cells hpe
    refine ⟨[.sl (l.map (D.ofCells (tyi P e).agg))], ⟨_, rfl, by rw [List.length_map, hll]; exact hszl, fun d hd => ?_⟩, rfl, fun j d v hj hv => ?_⟩
    ·obtain ⟨es, hes, rfl⟩ := List.mem_map.1 hd
     obtain ⟨i, hi'⟩ := List.getElem?_of_mem hes
     obtain ⟨vs, h1, h2, h3, _⟩ := hlat i es hi'
     exact ⟨es, rfl, by rw [h2.1, h3], h1⟩
    ·rcases j with _ | j <;> simp at hj hv
     subst hj; subst hv
     refine ⟨?_, rfl⟩
     by_cases hz : len = 0
     ·subst hz
      have : l = [] := List.eq_nil_of_length_eq_zero hll
      subst this
      exact .slnil _ _
     · -- the address has no spot
      have h0 : a.spot = none := by
       obtain ⟨es, hes⟩ := get_some (l := l) (k := 0) (by omega)
       obtain ⟨vs, h1, h2, h3, h4⟩ := hlat 0 es hes
       have hc := h4 0 (by omega)
       have hv : vs[0]? = some (vs[0]'(by omega)) := List.getElem?_eq_getElem _
       rw [hv] at hc
       simp only [Nat.zero_mul] at hc
       unfold World.cell? at hc
       split at hc
       ·split at hc
        ·cases hc
        ·rename_i hs
         cases hsp : a.spot with
         | none => rfl
         | some s => simp [Addr.add, hsp] at hs
       ·cases hc
      obtain ⟨b, off, sp⟩ := a
      simp only at h0
      subst h0
      have hadd : ∀ i j, ((⟨b, off, none⟩ : Addr).add i).add j = ⟨b, off + i + j, none⟩ := fun i j => by rw [add_at, add_at]
      have := D.At.sl (w := w) (X := noX) (l.map (D.ofCells (tyi P e).agg)) b off cap (P.cellsOf e) (by simp [hll, hl]) hm (fun d hd => by
        obtain ⟨es, hes, rfl⟩ := List.mem_map.1 hd
        obtain ⟨i, hi'⟩ := List.getElem?_of_mem hes
        obtain ⟨vs, h1, h2, h3, _⟩ := hlat i es hi'
        rw [ofCells_cells' h2 (fun h => by rw [h2.1, h3]; exact hagg h), h2.1, h3])
       (fun i j => (w.cell? ⟨b, off + i * P.cellsOf e + j, none⟩).getD undef)
       (fun i d j c hi' hj => by
        rw [List.getElem?_map] at hi'
        cases hes : l[i]? with
        | none => rw [hes] at hi'; cases hi'
        | some es =>
         rw [hes] at hi'; cases hi'
         obtain ⟨vs, h1, h2, h3, h4⟩ := hlat i es hes
         rw [ofCells_cells' h2 (fun h => by rw [h2.1, h3]; exact hagg h)] at hj
         have hjl := (List.getElem?_eq_some_iff.1 hj).1
         rw [h2.1, h3] at hjl
         have hv : vs[j]? = some (vs[j]'(by omega)) := List.getElem?_eq_getElem _
         have hc := h4 j hjl
         rw [hadd, hv] at hc
         rw [hc]
         exact ⟨rfl, (h2.2 j c _ hj hv).2, fun h => h⟩)
       (fun i d j c hi' hj => by
        rw [List.getElem?_map] at hi'
        cases hes : l[i]? with
        | none => rw [hes] at hi'; cases hi'
        | some es =>
         rw [hes] at hi'; cases hi'
         obtain ⟨vs, h1, h2, h3, h4⟩ := hlat i es hes
         rw [ofCells_cells' h2 (fun h => by rw [h2.1, h3]; exact hagg h)] at hj
         have hjl := (List.getElem?_eq_some_iff.1 hj).1
         rw [h2.1, h3] at hjl
         have hv : vs[j]? = some (vs[j]'(by omega)) := List.getElem?_eq_getElem _
         have hc := h4 j hjl
         rw [hadd, hv] at hc
         rw [hc]
         exact (h2.2 j c _ hj hv).1)
      simp only [List.length_map, hll] at this
      exact this
  ·rename_i k e hu
   simp only [hu]
   simp only [Bool.and_eq_true, beq_iff_eq] at hp
   obtain ⟨xs, m', rfl, hxe, hlen, hxl, hf⟩ := DataW.trod_array hu h
   obtain ⟨ds, g1, g2⟩ := parts_fit (cs := cs) (fun t cs x => ih t m' cs x) hp.1.1 k 0 (by rw [Nat.add_zero, hp.1.2, hlen]) (fun i hi => by
    have hil : i < xs.length := by omega
    refine ⟨xs[i], (hf i (by omega)).trans (List.getElem?_eq_getElem hil), ?_⟩
    rw [Sized, hxe] at hsz
    simp only [DataW.weights, hu] at hsz
    exact sized_all hsz _ (List.mem_map.2 ⟨xs[i], List.getElem_mem hil, rfl⟩))
   exact ⟨ds, g1, by simpa using g2⟩
  ·cases hp

theorem okWide_array {r : Reach} {b0 : Nat} {t : TypeId} {v : Value} {k : Nat} {e : TypeId} (ht : P.underlying t = some (.array k e)) (h : Value.okWide P w r b0 t v) : ∃ cs, v = .agg cs ∧ cs.size = P.cellsOf t := by
 unfold Value.okWide at h
 rw [ht] at h
 obtain ⟨cs, h1, h2, _⟩ := h
 exact ⟨cs, h1, h2⟩
def ArgOk (P : Program) (t : TypeId) (x : D) : Prop := ∃ cs, CellsOk P 8 t cs ∧ x = D.ofCells (tyi P t).agg cs

theorem arg_fit {r : Reach} {b0 : Nat} {t : TypeId} {v : Value} {d : DataW H} {p : List MemPlace} (hp : plainTy P 8 t = true) (hv : Value.okWide P w r b0 t v) (h : DataW.Trod enc P w base spare held t v d p) (hsz : Sized P t d) :
  ∃ x, ArgOk P t x ∧ D.At w noX x v := by
 obtain ⟨fuel, hf⟩ := h
 obtain ⟨ds, h1, h2⟩ := trod_fit 8 t fuel _ _ hp hf hsz
 refine ⟨_, ⟨ds, h1, rfl⟩, ?_⟩
 replace hp : plainTy P (7 + 1) t = true := hp
 rw [plainTy] at hp
 split at hp
 ·rename_i k hu
  simp only [Bool.and_eq_true, beq_iff_eq, Bool.not_eq_true'] at hp
  obtain ⟨q, rfl⟩ := okWide_int hu hv
  have hl := h2.1
  match ds, hl, h2 with
  | [e], _, h2 => rw [hp.2]; exact (h2.2 0 e _ rfl rfl).1
 ·rename_i hu
  simp only [Bool.and_eq_true, beq_iff_eq, Bool.not_eq_true'] at hp
  obtain ⟨q, rfl⟩ := okWide_bool hu hv
  have hl := h2.1
  match ds, hl, h2 with
  | [e], _, h2 => rw [hp.2]; exact (h2.2 0 e _ rfl rfl).1
 ·rename_i fs hu
  simp only [Bool.and_eq_true] at hp
  obtain ⟨cs, rfl, hsz⟩ := okWide_struct hu hv
  rw [hp.2]
  have hl : ds.length = cs.size := by have := h2.1; simpa [Value.cells] using this
  refine .ag ds cs hl.symm (fun j v hj => ?_) (fun j e v hj hv => ?_)
  ·have hjl := (Array.getElem?_eq_some_iff.1 hj).1
   exact (h2.2 j _ v (List.getElem?_eq_getElem (by omega)) (by simpa [Value.cells] using hj)).2
  ·exact (h2.2 j e v hj (by simpa [Value.cells] using hv)).1
 ·rename_i e hu
  simp only [Bool.and_eq_true, beq_iff_eq, Bool.not_eq_true'] at hp
  obtain ⟨a, len, cap, rfl⟩ := okWide_slice hu hv
  have hl := h2.1
  match ds, hl, h2 with
  | [e], _, h2 => rw [hp.1.2]; exact (h2.2 0 e _ rfl rfl).1
 ·rename_i k e hu
  simp only [Bool.and_eq_true] at hp
  obtain ⟨cs, rfl, hsz⟩ := okWide_array hu hv
  rw [hp.2]
  have hl : ds.length = cs.size := by have := h2.1; simpa [Value.cells] using this
  refine .ag ds cs hl.symm (fun j v hj => ?_) (fun j e v hj hv => ?_)
  ·have hjl := (Array.getElem?_eq_some_iff.1 hj).1
   exact (h2.2 j _ v (List.getElem?_eq_getElem (by omega)) (by simpa [Value.cells] using hj)).2
  ·exact (h2.2 j e v hj (by simpa [Value.cells] using hv)).1
 ·cases hp

theorem args_fit {r : Reach} {b0 : Nat} : ∀ (ts : List TypeId) (vs : List Value) (ds : List (DataW H)) (p : List MemPlace), (∀ t ∈ ts, plainTy P 8 t = true) → (∀ (j : Nat) t v, ts[j]? = some t → vs[j]? = some v → Value.okWide P w r b0 t v) →
  DataW.TrodAll enc P w base spare held ts vs ds p → (∀ (j : Nat) t d, ts[j]? = some t → ds[j]? = some d → Sized P t d) → ∃ xs : List D, xs.length = ts.length ∧ vs.length = ts.length ∧ ds.length = ts.length ∧ (∀ (j : Nat) t x, ts[j]? = some t → xs[j]? = some x → ArgOk P t x) ∧ ∀ (j : Nat) x v, xs[j]? = some x → vs[j]? = some v → D.At w noX x v := by
 intro ts
 induction ts with
 | nil =>
  intro vs ds p _ _ h _
  cases vs <;> cases ds <;> simp [DataW.TrodAll] at h
  exact ⟨[], rfl, rfl, rfl, by simp, by simp⟩
 | cons t ts ih =>
  intro vs ds p hp hv h hsz
  cases vs with
  | nil => simp [DataW.TrodAll] at h
  | cons v vs =>
   cases ds with
   | nil => simp [DataW.TrodAll] at h
   | cons d ds =>
    obtain ⟨p1, q1, h1, h2, _⟩ := h
    obtain ⟨x, g1, g2⟩ := arg_fit (hp t (by simp)) (hv 0 t v rfl rfl) h1 (hsz 0 t d rfl rfl)
    obtain ⟨xs, e1, e2, e3, e4, e5⟩ := ih vs ds q1 (fun t' ht' => hp t' (List.mem_cons_of_mem _ ht')) (fun j t' v' hj hv' => hv (j + 1) t' v' (by simpa using hj) (by simpa using hv')) h2 (fun j t' d' hj hd' => hsz (j + 1) t' d' (by simpa using hj) (by simpa using hd'))
    refine ⟨x :: xs, by simp [e1], by simp [e2], by simp [e3], fun j t' x' hj hx => ?_, fun j x' v' hj hv' => ?_⟩
    ·cases j with
     | zero => simp at hj hx; subst hj; subst hx; exact g1
     | succ j => exact e4 j t' x' (by simpa using hj) (by simpa using hx)
    ·cases j with
     | zero => simp at hj hv'; subst hj; subst hv'; exact g2
     | succ j => exact e5 j x' v' (by simpa using hj) (by simpa using hv')

theorem args_stay (hl : laidOutB P = true) {W W' : World} (hb : Below W.heap.size W W') : ∀ (ts : List TypeId) (vs : List Value) (ds : List (DataW H)) (p : List MemPlace), (∀ t ∈ ts, P.readableRec t = true ∧ t < P.types.size) → (∀ x ∈ p, x.block < W.heap.size) →
  DataW.TrodAll enc P W 0 (fun _ => true) true ts vs ds p → DataW.TrodAll enc P W' 0 (fun b => decide (b < W.heap.size)) true ts vs ds p := by
 intro ts
 induction ts with
 | nil => intro vs ds p _ _ h; cases vs <;> cases ds <;> simp [DataW.TrodAll] at h ⊢; exact h
 | cons t ts ih =>
  intro vs ds p hr hlt h
  cases vs with
  | nil => simp [DataW.TrodAll] at h
  | cons v vs =>
   cases ds with
   | nil => simp [DataW.TrodAll] at h
   | cons d ds =>
    obtain ⟨p1, q1, h1, h2, rfl⟩ := h
    exact ⟨p1, q1, Below.trod hl (hr t (by simp)).1 (hr t (by simp)).2 h1 hb (fun x hx => hlt x (by simp [hx])), ih vs ds q1 (fun t' ht' => hr t' (List.mem_cons_of_mem _ ht')) (fun x hx => hlt x (by simp [hx])) h2, rfl⟩

theorem law_lifted {a : Assume} {C : Checked} {os : Os} {f : FuncId} {fn : Func} {s : ChangeSpec} {tb : TypeId}
  (own : ownKnob C.prog.godebug = none) (started : os.Started) (noInit : C.prog.inits.idxOf? f = none) (hfn : C.prog.funcs[f]? = some fn)
  (witness : ∃ (w : World) (tape : Tape) (i : Input), w.os = os ∧ (w.forCall tape i).Shaped C.prog ∧ i.vars = [] ∧ Input.okWide C.prog (w.forCall tape i) .any w.heap.size f i ∧
   s.pre6 enc C.prog fn [] false (w.forCall tape i).memory i.args ∧ a.holds C.prog (lone (Frame.enter C.prog f i.args .normal) [] (w.forCall tape i)))
  (hl : laidOutB C.prog = true) (hpl : (fn.params.toList.all fun t => plainTy C.prog 8 t && C.prog.readableRec t && decide (t < C.prog.types.size)) = true)
  (hres : fn.resultTypes = #[tb]) (hbool : C.prog.underlying tb = some .bool) (hvars : s.vars = [])
  (hs : ∀ ds : List (DataW H), ds.length = fn.params.size → s.fn H ds = { results := [.lit (.bool true)], args := ds })
  (hcall : ∀ xs : List D, xs.length = fn.params.size → (∀ (j : Nat) t x, fn.params[j]? = some t → xs[j]? = some x → ArgOk C.prog t x) → CallsTo C.prog f xs (.bool true)) :
  ReturnsInHanded a C os f .any (s.pre6 enc C.prog fn [] false) (s.post enc C.prog fn false true false false) := by
 refine returnsInHanded_of_change_sized own started noInit hfn witness ?_
 intro W base' args ds gs before hval hW _ hwt _
 have hW' := hW
 obtain ⟨p, q, hA, hV, rfl, _, _⟩ := hW
 rw [hvars] at hV
 obtain ⟨rfl, rfl⟩ := trodVars_none hV
 simp only [List.all_eq_true, Bool.and_eq_true, decide_eq_true_eq] at hpl
 obtain ⟨xs, h1, h2, h3, h4, h5⟩ := args_fit fn.params.toList args.toList ds p (fun t ht => (hpl t ht).1.1) (fun j t v hj hv => hval j t v (by simpa using hj) (by simpa using hv)) hA (fun j t d hj hd => sized_each hwt (j := j) (by rw [List.getElem?_append_left (List.getElem?_eq_some_iff.1 hj).1]; exact hj) (by rw [List.append_nil]; exact hd))
 have hc := hcall xs (by simpa using h1) (fun j t x hj hx => h4 j t x (by simpa using hj) hx)
 refine Calls.mono (hc.2 W noX args (fun b hb => hb.elim) ⟨by simp at h1 h2; omega, fun j d v hj hv => h5 j d v hj (by simpa using hv)⟩) ?_
 rintro e W' ⟨v, rfl, hv, hb⟩
 refine ⟨v, rfl, ?_⟩
 cases hv
 have hlt : ∀ x ∈ p, x.block < W.heap.size := fun x hx => hW'.lt x (by simpa using hx)
 have hfn2 := hs ds (by simpa using h3)
 refine ⟨ds, [], p ++ [], [], p, [], hW', ?_, ?_, ?_, World.keptBut_mono (fun x hx => ⟨hx, .inr (.inl (by simpa using hx))⟩) (hb.frame (· ∈ p ++ [])), (fun h => by cases h)⟩
 ·rw [List.append_nil, hfn2, hres]
  exact ⟨[], [], ⟨1, by simp [DataW.trod, Value.cells, hbool]⟩, rfl, rfl⟩
 ·rw [List.append_nil, hfn2]
  exact args_stay hl hb _ _ _ _ (fun t ht => ⟨(hpl t ht).1.2, (hpl t ht).2⟩) hlt hA
 ·rw [hvars, List.append_nil, hfn2]
  rfl
end reads
end Go.PS
namespace Go.Bd

def sm (f : Nat → Int) : Nat → Int
 | 0 => 0
 | k + 1 => sm f k + f k
def better {α : Type} : Option (α × Int) → Option (α × Int) → Option (α × Int)
 | none, y => y
 | some x, none => some x
 | some x, some y => if y.2 < x.2 then some y else some x
section bound
variable (c : Nat → Nat → Int) (n : Nat)
def sumC : List Nat → Int
 | [] => 0
 | u :: l => (l.map (c u)).sum + sumC l
def fr (l : List Nat) (w : Nat) : Int := if w ∈ l then 0 else 1
def more (l : List Nat) (v : Nat) : Int := sm (fun w => if w ≠ v ∧ w ∉ l then c v w else 0) n
def less (l : List Nat) (v : Nat) : Int := sm (fun w => if w ≠ v ∧ w ∉ l then min (c v w) (c w v) else 0) n
def low (l : List Nat) : Int := sm (fun b => sm (fun a => if a ∉ l ∧ b ∉ l then min (c a b) (c b a) else 0) b) n
def bestF : Nat → List Nat → Option (List Nat × Int)
 | 0, l => some (l, sumC c l)
 | f + 1, l => (List.range n).foldl (fun st v => better st (if v ∈ l then none else bestF f (l ++ [v]))) none
def shut (st : Option (List Nat × Int)) (x : Int) : Bool := match st with
 | none => false
 | some s => decide (s.2 ≤ x)
def extF : Nat → List Nat → Int → Int → Option (List Nat × Int) → Option (List Nat × Int)
 | 0, l, cost, rest, st => if shut st (cost + rest) then st else some (l, cost)
 | f + 1, l, cost, rest, st => if shut st (cost + rest) then st else (List.range n).foldl (fun st v => if v ∈ l then st else extF f (l ++ [v]) (cost + more c n l v) (rest - less c n l v) st) st
def fixC (l : List Nat) : Int := sumC c l + (l.map fun u => sm (fun w => if w ∉ l then c u w else 0) n).sum

theorem sum_map_add {f g : Nat → Int} : ∀ l : List Nat, (l.map fun u => f u + g u).sum = (l.map f).sum + (l.map g).sum
 | [] => rfl
 | u :: l => by simp only [List.map_cons, List.sum_cons, sum_map_add l]; omega
theorem nodup_le : ∀ (n : Nat) (l : List Nat), l.Nodup → (∀ v, v ∈ l → v < n) → l.length ≤ n
 | 0, [], _, _ => Nat.le_refl _
 | 0, v :: l, _, h => by have := h v (by simp); omega
 | n + 1, l, hd, h => by
  have h1 := nodup_le n (l.erase n) (hd.erase n) fun v hv => by
   have h2 := h v (List.mem_of_mem_erase hv)
   have h3 : v ≠ n := (List.Nodup.mem_erase_iff hd).1 hv |>.1
   omega
  rw [List.length_erase] at h1
  split at h1 <;> omega
theorem full {l : List Nat} (hd : l.Nodup) (hlt : ∀ v, v ∈ l → v < n) (hl : l.length = n) : ∀ v, v < n → v ∈ l := by
 intro v hv
 apply Classical.byContradiction
 intro hm
 have := nodup_le n (v :: l) (List.nodup_cons.2 ⟨hm, hd⟩) fun w hw => by
  rcases List.mem_cons.1 hw with rfl | hw
  ·exact hv
  ·exact hlt w hw
 simp at this; omega
structure Part (f : Nat) (l : List Nat) : Prop where
 nd : l.Nodup
 lt : ∀ v, v ∈ l → v < n
 len : l.length + f = n
variable {n}
end bound
/-! ### What one pair of places adds -/
section pairs
theorem sumC_add (c d : Nat → Nat → Int) : ∀ l : List Nat, sumC (fun u v => c u v + d u v) l = sumC c l + sumC d l
 | [] => rfl
 | u :: l => by
  have := sum_map_add (f := c u) (g := d u) l
  simp only [sumC, sumC_add c d l]
  omega
theorem sumC_zero : ∀ l : List Nat, sumC (fun _ _ => 0) l = 0
 | [] => rfl
 | u :: l => by
  have : (l.map fun _ => (0 : Int)).sum = 0 := by
   clear u
   induction l with
   | nil => rfl
   | cons _ l ih => simp only [List.map_cons, List.sum_cons, ih]; rfl
  simp only [sumC, sumC_zero l, this]; rfl
theorem sum_hit (b : Nat) (x : Int) : ∀ l : List Nat, l.Nodup → (l.map fun v => if v = b then x else 0).sum = if b ∈ l then x else 0
 | [], _ => rfl
 | u :: l, h => by
  obtain ⟨h1, h2⟩ := List.nodup_cons.1 h
  have ih := sum_hit b x l h2
  simp only [List.map_cons, List.sum_cons, ih, List.mem_cons]
  by_cases c : u = b
  ·subst c
   rw [if_pos rfl, if_neg h1, if_pos (.inl rfl)]; omega
  ·rw [if_neg c]
   by_cases c2 : b ∈ l
   ·rw [if_pos c2, if_pos (.inr c2)]; omega
   ·rw [if_neg c2, if_neg (by rintro (h | h); exact c h.symm; exact c2 h)]; rfl
theorem idx_ne {u b : Nat} {l : List Nat} (h : ¬ u = b) : (u :: l).idxOf b = l.idxOf b + 1 := by
 have : (u == b) = false := by simpa using h
 rw [List.idxOf_cons, this]; rfl
theorem sumC_hit (a b : Nat) (x : Int) : ∀ l : List Nat, l.Nodup → a ∈ l → b ∈ l → sumC (fun u v => if u = a ∧ v = b then x else 0) l = if l.idxOf a < l.idxOf b then x else 0
 | [], _, h, _ => by cases h
 | u :: l, hn, ha, hb => by
  obtain ⟨h1, h2⟩ := List.nodup_cons.1 hn
  have none : ∀ (m : List Nat), (∀ w, w ∈ m → ¬ w = a) → sumC (fun u v => if u = a ∧ v = b then x else 0) m = 0 := by
   intro m
   induction m with
   | nil => intro _; rfl
   | cons w m ih =>
    intro h
    have e : (m.map fun v => if w = a ∧ v = b then x else 0) = m.map fun _ => 0 := List.map_congr_left fun v _ => if_neg fun h3 => h w (by simp) h3.1
    have z : (m.map fun _ => (0 : Int)).sum = 0 := by
     clear ih h e
     induction m with
     | nil => rfl
     | cons _ m ih => simp only [List.map_cons, List.sum_cons, ih]; rfl
    simp only [sumC, e, z, ih fun v hv => h v (List.mem_cons_of_mem _ hv)]; rfl
  have none2 : ∀ (m : List Nat), b ∉ m → sumC (fun u v => if u = a ∧ v = b then x else 0) m = 0 := by
   intro m
   induction m with
   | nil => intro _; rfl
   | cons w m ih =>
    intro h
    have e : (m.map fun v => if w = a ∧ v = b then x else 0) = m.map fun _ => 0 := List.map_congr_left fun v hv => if_neg fun h3 => h (by rw [← h3.2]; exact List.mem_cons_of_mem _ hv)
    have z : (m.map fun _ => (0 : Int)).sum = 0 := by
     clear ih h e
     induction m with
     | nil => rfl
     | cons _ m ih => simp only [List.map_cons, List.sum_cons, ih]; rfl
    simp only [sumC, e, z, ih fun hv => h (List.mem_cons_of_mem _ hv)]; rfl
  rw [sumC]
  by_cases c : u = a
  ·subst c
   rw [none l fun w hw he => h1 (he ▸ hw)]
   have e : (l.map fun v => if u = u ∧ v = b then x else 0) = l.map fun v => if v = b then x else 0 := List.map_congr_left fun v _ => by simp
   rw [e, sum_hit b x l h2, List.idxOf_cons_self]
   by_cases c2 : b = u
   ·subst c2
    rw [if_neg h1, List.idxOf_cons_self, if_neg (by omega)]; rfl
   ·have hbl : b ∈ l := by
     rcases List.mem_cons.1 hb with h | h
     ·exact absurd h c2
     ·exact h
    have : (u :: l).idxOf b = l.idxOf b + 1 := idx_ne (l := l) (fun h => c2 h.symm)
    rw [if_pos hbl, this, if_pos (by omega)]; omega
  ·have e : (l.map fun v => if u = a ∧ v = b then x else 0) = l.map fun _ => 0 := List.map_congr_left fun v _ => if_neg fun h => c h.1
   have z : (l.map fun _ => (0 : Int)).sum = 0 := by
    clear e none none2 h1 h2 hn ha hb c
    induction l with
    | nil => rfl
    | cons _ l ih => simp only [List.map_cons, List.sum_cons, ih]; rfl
   have hal : a ∈ l := by
    rcases List.mem_cons.1 ha with h | h
    ·exact absurd h.symm c
    ·exact h
   have ia : (u :: l).idxOf a = l.idxOf a + 1 := idx_ne (l := l) c
   rw [e, z, ia]
   by_cases c2 : b = u
   ·subst c2
    rw [none2 l h1, List.idxOf_cons_self, if_neg (by omega)]; rfl
   ·have hbl : b ∈ l := by
     rcases List.mem_cons.1 hb with h | h
     ·exact absurd h c2
     ·exact h
    have ib : (u :: l).idxOf b = l.idxOf b + 1 := idx_ne (l := l) (fun h => c2 h.symm)
    rw [ib, sumC_hit a b x l h2 hal hbl]
    by_cases c3 : l.idxOf a < l.idxOf b
    ·rw [if_pos c3, if_pos (by omega)]; omega
    ·rw [if_neg c3, if_neg (by omega)]; rfl
end pairs
end Go.Bd
namespace Go.Bd
section bound
variable (c : Nat → Nat → Int) (n : Nat)

def foldB (f : Nat) (l : List Nat) (k : Nat) : Option (List Nat × Int) := (List.range k).foldl (fun st v => better st (if v ∈ l then none else bestF c n f (l ++ [v]))) none
def foldE (f : Nat) (l : List Nat) (cost rest : Int) (st : Option (List Nat × Int)) (k : Nat) : Option (List Nat × Int) :=
 (List.range k).foldl (fun st v => if v ∈ l then st else extF c n f (l ++ [v]) (cost + more c n l v) (rest - less c n l v) st) st
variable {c n}
def Small (c : Nat → Nat → Int) (n : Nat) : Prop := ∀ u v, u < n → v < n → 0 ≤ c u v ∧ c u v ≤ 1000000
theorem all_len : ∀ (n : Nat) (l : List Nat), (∀ v, v < n → v ∈ l) → n ≤ l.length
 | 0, _, _ => Nat.zero_le _
 | n + 1, l, h => by
  have hn := h n (by omega)
  have ih := all_len n (l.erase n) fun v hv => (List.mem_erase_of_ne (by omega)).2 (h v (by omega))
  rw [List.length_erase_of_mem hn] at ih
  have := List.length_pos_of_mem hn
  omega
end bound
end Go.Bd
namespace Go.Bd

def comN (old order : List Int) : Nat → List Int
 | 0 => []
 | i + 1 => match order[i]? with
  | some v => if v ∈ old ∧ v ∉ order.take i then comN old order i ++ [v] else comN old order i
  | none => comN old order i
def invN (f : Int → Nat) : List Int → Nat
 | [] => 0
 | u :: l => l.countP (fun v => decide (f v < f u)) + invN f l
def invF (old order : List Int) : Nat := invN (fun v => old.idxOf v) (comN old order order.length)
def ix (l : List Int) (v : Int) : Int := if v ∈ l then (l.idxOf v : Int) else -1
def refB (old order : List Int) (v : Int) (k : Nat) : Bool := match order[k]? with
 | some u => decide (ix order u = (k : Int)) && decide (ix old v < ix old u)
 | none => false
def refN (old order : List Int) : Nat → Nat
 | 0 => 0
 | i + 1 => match order[i]? with
  | some v => if ix order v = (i : Int) ∧ 0 ≤ ix old v then refN old order i + (List.range i).countP (refB old order v) else refN old order i
  | none => refN old order i
def keptG (C : List Int) : List Int → List Int → List Int
 | [], _ => []
 | v :: l, cs => if v ∈ C then match cs with
   | c :: cs' => c :: keptG C l cs'
   | [] => v :: keptG C l []
  else v :: keptG C l cs
end Go.Bd
namespace Go.Bd

def invC (old : List Int) (g : Nat → Int) (u v : Nat) : Int := if g u ∈ old ∧ g v ∈ old ∧ old.idxOf (g v) < old.idxOf (g u) then 1 else 0
theorem sumC_mul (w : Int) (c : Nat → Nat → Int) : ∀ l : List Nat, sumC (fun u v => w * c u v) l = w * sumC c l
 | [] => by simp [sumC]
 | u :: l => by
  have e : ∀ m : List Nat, (m.map fun v => w * c u v).sum = w * (m.map (c u)).sum := fun m => by
   induction m with
   | nil => simp
   | cons v m ih => simp only [List.map_cons, List.sum_cons, ih, Int.mul_add]
  simp only [sumC]
  rw [sumC_mul w c l, e, Int.mul_add]
end Go.Bd
namespace Go.Bd

def cntN (C l : List Int) (k : Nat) : Nat := ((l.take k).filter fun v => decide (v ∈ C)).length
def comO (layer old : List Int) (k : Nat) : List Int := comN layer old k
def keptF (layer old : List Int) : List Int := keptG (comO layer old old.length) layer (comO layer old old.length)
end Go.Bd
namespace Go.Stb

structure Ord {α : Type} (R : α → α → Prop) : Prop where
 asymm : ∀ a b, R a b → ¬ R b a
 trans : ∀ a b c, R a b → R b c → R a c
 total : ∀ a b, a ≠ b → R a b ∨ R b a
variable {α : Type} {R : α → α → Prop}
theorem uniq (h : Ord R) {l m : List α} (hp : l.Perm m) (hl : l.Pairwise R) (hm : m.Pairwise R) : l = m :=
 List.Perm.eq_of_pairwise (le := R) (fun a b _ _ h1 h2 => absurd h2 (h.asymm a b h1)) hl hm hp
theorem exists_sorted (h : Ord R) {l : List α} (hn : l.Nodup) : ∃ m : List α, m.Perm l ∧ m.Pairwise R := by
 induction l with
 | nil => exact ⟨[], List.Perm.refl _, List.Pairwise.nil⟩
 | cons x l ih =>
  rw [List.nodup_cons] at hn
  obtain ⟨m, hp, hs⟩ := ih hn.2
  have hx : ∀ y, y ∈ m → y ≠ x := fun y hy e => hn.1 (hp.mem_iff.1 (e ▸ hy))
  have key : ∀ m : List α, m.Pairwise R → (∀ y, y ∈ m → y ≠ x) → ∃ k : List α, k.Perm (x :: m) ∧ k.Pairwise R := by
   intro m
   induction m with
   | nil => intro _ _; exact ⟨[x], List.Perm.refl _, List.pairwise_singleton _ _⟩
   | cons y m ih2 =>
    intro hs hx
    rw [List.pairwise_cons] at hs
    rcases h.total y x (hx y (by simp)) with h1 | h1
    ·obtain ⟨k, hk, hks⟩ := ih2 hs.2 fun z hz => hx z (List.mem_cons_of_mem _ hz)
     refine ⟨y :: k, (hk.cons y).trans (List.Perm.swap x y m), List.pairwise_cons.2 ⟨fun z hz => ?_, hks⟩⟩
     rcases List.mem_cons.1 (hk.mem_iff.1 hz) with rfl | hz
     ·exact h1
     ·exact hs.1 z hz
    ·refine ⟨x :: y :: m, List.Perm.refl _, List.pairwise_cons.2 ⟨fun z hz => ?_, List.pairwise_cons.2 hs⟩⟩
     rcases List.mem_cons.1 hz with rfl | hz
     ·exact h1
     ·exact h.trans x y z h1 (hs.1 z hz)
  obtain ⟨k, hk, hks⟩ := key m hs hx
  exact ⟨k, hk.trans (hp.cons x), hks⟩
theorem split_sorted (h : Ord R) {t u v : List α} (hp : t.Perm (u ++ v)) (hs : t.Pairwise R) (hb : ∀ a, a ∈ u → ∀ b, b ∈ v → R a b) (hn : (u ++ v).Nodup) :
  ∃ u' v' : List α, t = u' ++ v' ∧ u'.Perm u ∧ v'.Perm v ∧ u'.Pairwise R ∧ v'.Pairwise R := by
 rw [List.nodup_append] at hn
 obtain ⟨u', pu, su⟩ := exists_sorted h hn.1
 obtain ⟨v', pv, sv⟩ := exists_sorted h hn.2.1
 refine ⟨u', v', ?_, pu, pv, su, sv⟩
 refine uniq h (hp.trans (pu.append pv).symm) hs (List.pairwise_append.2 ⟨su, sv, fun a ha b hb2 => hb a (pu.mem_iff.1 ha) b (pv.mem_iff.1 hb2)⟩)
theorem insert_sorted {x : α} {l m : List α} (h : Ord R) (hs : (l ++ m).Pairwise R) (hl : ∀ a, a ∈ l → R a x) (hm : ∀ a, a ∈ m → R x a) : (l ++ x :: m).Pairwise R := by
 rw [List.pairwise_append] at hs ⊢
 refine ⟨hs.1, List.pairwise_cons.2 ⟨hm, hs.2.1⟩, fun a ha b hb => ?_⟩
 rcases List.mem_cons.1 hb with rfl | hb
 ·exact hl a ha
 ·exact hs.2.2 a ha b hb
theorem halves {a1 a2 b1 b2 : List α} (h : Ord R) (hl : (a1 ++ a2).Pairwise R) (hr : (b1 ++ b2).Pairwise R)
  (h1 : ∀ x, a1.getLast? = some x → ∀ y, b2.head? = some y → R x y) (h2 : ∀ x, b1.getLast? = some x → ∀ y, a2.head? = some y → R x y) :
  ∀ x, x ∈ a1 ++ b1 → ∀ y, y ∈ a2 ++ b2 → R x y := by
 have le_last : ∀ (l : List α) x z, l.Pairwise R → l.getLast? = some z → x ∈ l → x = z ∨ R x z := by
  intro l x z hs hz hx
  obtain ⟨l', rfl⟩ : ∃ l', l = l' ++ [z] := by
   rcases List.eq_nil_or_concat l with rfl | ⟨l', w, rfl⟩
   ·simp at hz
   ·refine ⟨l', ?_⟩
    rw [List.concat_eq_append] at hz ⊢
    simp at hz; rw [hz]
  rcases List.mem_append.1 hx with hx | hx
  ·exact .inr ((List.pairwise_append.1 hs).2.2 x hx z (by simp))
  ·exact .inl (List.mem_singleton.1 hx)
 have head_le : ∀ (l : List α) x z, l.Pairwise R → l.head? = some z → x ∈ l → x = z ∨ R z x := by
  intro l x z hs hz hx
  cases l with
  | nil => cases hx
  | cons w l =>
   have : w = z := by simpa using hz
   subst this
   rcases List.mem_cons.1 hx with rfl | hx
   ·exact .inl rfl
   ·exact .inr ((List.pairwise_cons.1 hs).1 x hx)
 obtain ⟨sa1, sa2, sa⟩ := List.pairwise_append.1 hl
 obtain ⟨sb1, sb2, sb⟩ := List.pairwise_append.1 hr
 have cross : ∀ (u v : List α), u.Pairwise R → v.Pairwise R → (∀ x, u.getLast? = some x → ∀ y, v.head? = some y → R x y) → ∀ x, x ∈ u → ∀ y, y ∈ v → R x y := by
  intro u v su sv huv x hx y hy
  obtain ⟨z, hz⟩ : ∃ z, u.getLast? = some z := by
   cases hu : u.getLast? with
   | none => rw [List.getLast?_eq_none_iff] at hu; subst hu; cases hx
   | some z => exact ⟨z, rfl⟩
  obtain ⟨w, hw⟩ : ∃ w, v.head? = some w := by
   cases v with
   | nil => cases hy
   | cons w v => exact ⟨w, rfl⟩
  have hzw := huv z hz w hw
  have hxw : R x w := by
   rcases le_last u x z su hz hx with rfl | h3
   ·exact hzw
   ·exact h.trans x z w h3 hzw
  rcases head_le v y w sv hw hy with rfl | h4
  ·exact hxw
  ·exact h.trans x w y hxw h4
 intro x hx y hy
 rcases List.mem_append.1 hx with hx | hx <;> rcases List.mem_append.1 hy with hy | hy
 ·exact sa x hx y hy
 ·exact cross a1 b2 sa1 sb2 h1 x hx y hy
 ·exact cross b1 a2 sb1 sa2 h2 x hx y hy
 ·exact sb x hx y hy
end Go.Stb
namespace Go.Stb

def okPl (l : List Int) : Bool := decide (l.length ≤ 4096) && l.all fun x => decide (0 ≤ x ∧ x ≤ 1048576)
def cntP (l : List Int) : Nat := if okPl l then l.length else 0
def sumP (l : List Int) : Int := if okPl l then l.sum else 0
def sg (a b : Int) : Int := if a < b then -1 else if b < a then 1 else 0
def cmpP (a b : List Int) : Int :=
 if cntP a = 0 ∨ cntP b = 0 then sg (min (cntP a) 1 : Nat) (min (cntP b) 1 : Nat) else sg (sumP a * cntP b) (sumP b * cntP a)
theorem sg_anti (a b : Int) : sg a b = -sg b a := by
 unfold sg; split <;> split <;> omega
theorem cmpP_anti (a b : List Int) : cmpP a b = -cmpP b a := by
 unfold cmpP
 by_cases h : cntP a = 0 ∨ cntP b = 0
 ·rw [if_pos h, if_pos h.symm, sg_anti]
 ·rw [if_neg h, if_neg (fun c => h c.symm), sg_anti]
theorem sg_neg {a b : Int} : sg a b < 0 ↔ a < b := by unfold sg; split <;> (try split) <;> omega
theorem cmpP_lt {a b : List Int} : cmpP a b < 0 ↔ (cntP a = 0 ∧ 0 < cntP b) ∨ (0 < cntP a ∧ 0 < cntP b ∧ sumP a * cntP b < sumP b * cntP a) := by
 unfold cmpP
 split <;> rw [sg_neg] <;> omega
theorem cmpP_asymm {a b : List Int} (h : cmpP a b < 0) : ¬ cmpP b a < 0 := by have := cmpP_anti a b; omega
theorem mul_cancel {x y : Int} {n : Nat} (hn : 0 < n) (h : x * n ≤ y * n) : x ≤ y := Int.le_of_mul_le_mul_right h (by omega)
theorem cmpP_neg {a c : List Int} (b : List Int) (h : cmpP a c < 0) : cmpP a b < 0 ∨ cmpP b c < 0 := by
 rw [cmpP_lt] at h
 rw [cmpP_lt, cmpP_lt]
 rcases h with ⟨h1, h2⟩ | ⟨h1, h2, h3⟩
 ·rcases Nat.eq_zero_or_pos (cntP b) with c1 | c1
  ·exact .inr (.inl ⟨c1, h2⟩)
  ·exact .inl (.inl ⟨h1, c1⟩)
 ·rcases Nat.eq_zero_or_pos (cntP b) with c1 | c1
  ·exact .inr (.inl ⟨c1, h2⟩)
  ·by_cases c2 : sumP a * cntP b < sumP b * cntP a
   ·exact .inl (.inr ⟨h1, c1, c2⟩)
   ·by_cases c3 : sumP b * cntP c < sumP c * cntP b
    ·exact .inr (.inr ⟨c1, h2, c3⟩)
    ·exfalso
     have e1 : sumP b * cntP a * cntP c ≤ sumP a * cntP b * cntP c := Int.mul_le_mul_of_nonneg_right (by omega) (by omega)
     have e2 : sumP c * cntP b * cntP a ≤ sumP b * cntP c * cntP a := Int.mul_le_mul_of_nonneg_right (by omega) (by omega)
     have e3 : sumP c * cntP a * cntP b ≤ sumP a * cntP c * cntP b := by
      have s1 : sumP c * cntP b * cntP a = sumP c * cntP a * cntP b := by rw [Int.mul_assoc, Int.mul_comm (cntP b : Int), ← Int.mul_assoc]
      have s2 : sumP b * cntP c * cntP a = sumP b * cntP a * cntP c := by rw [Int.mul_assoc, Int.mul_comm (cntP c : Int), ← Int.mul_assoc]
      have s3 : sumP a * cntP b * cntP c = sumP a * cntP c * cntP b := by rw [Int.mul_assoc, Int.mul_comm (cntP b : Int), ← Int.mul_assoc]
      omega
     have := mul_cancel c1 e3
     omega
def ordP (p : Nat → List Int) (j k : Nat) : Prop := cmpP (p j) (p k) < 0 ∨ (¬ cmpP (p k) (p j) < 0 ∧ j < k)
theorem ordP_ord (p : Nat → List Int) : Ord (ordP p) where
 asymm := fun a b h1 h2 => by
  rcases h1 with h1 | ⟨h1, h3⟩ <;> rcases h2 with h2 | ⟨h2, h4⟩
  ·exact cmpP_asymm h1 h2
  ·exact h2 h1
  ·exact h1 h2
  ·omega
 trans := fun a b c h1 h2 => by
  rcases h1 with h1 | ⟨h1, h3⟩
  ·rcases cmpP_neg (p c) h1 with h | h
   ·exact .inl h
   ·rcases h2 with h2 | ⟨h2, h4⟩
    ·exact absurd h (cmpP_asymm h2)
    ·exact absurd h h2
  ·rcases h2 with h2 | ⟨h2, h4⟩
   ·rcases cmpP_neg (p a) h2 with h | h
    ·exact absurd h h1
    ·exact .inl h
   ·refine .inr ⟨fun h => ?_, by omega⟩
    rcases cmpP_neg (p b) h with h | h
    ·exact h2 h
    ·exact h1 h
 total := fun a b h => by
  by_cases h1 : cmpP (p a) (p b) < 0
  ·exact .inl (.inl h1)
  ·by_cases h2 : cmpP (p b) (p a) < 0
   ·exact .inr (.inl h2)
   ·rcases Nat.lt_or_ge a b with h3 | h3
    ·exact .inl (.inr ⟨h2, h3⟩)
    ·exact .inr (.inr ⟨h1, by omega⟩)
theorem ordP_back {p : Nat → List Int} {j k : Nat} (h : j < k) : cmpP (p k) (p j) < 0 ↔ ordP p k j :=
 ⟨fun c => .inl c, fun c => by
  rcases c with c | ⟨_, c⟩
  ·exact c
  ·omega⟩
theorem okPl_perm {a b : List Int} (h : a.Perm b) : okPl a = okPl b := by
 simp only [okPl, h.length_eq, h.all_eq]
theorem cntP_perm {a b : List Int} (h : a.Perm b) : cntP a = cntP b := by rw [cntP, cntP, okPl_perm h, h.length_eq]
theorem isum_perm {a b : List Int} (h : a.Perm b) : a.sum = b.sum := by
 induction h with
 | nil => rfl
 | cons x _ ih => rw [List.sum_cons, List.sum_cons, ih]
 | swap x y l => simp only [List.sum_cons]; omega
 | trans _ _ h1 h2 => rw [h1, h2]
theorem sumP_perm {a b : List Int} (h : a.Perm b) : sumP a = sumP b := by rw [sumP, sumP, okPl_perm h, isum_perm h]
theorem cmpP_perm {a b c d : List Int} (h1 : a.Perm c) (h2 : b.Perm d) : cmpP a b = cmpP c d := by
 simp only [cmpP, cntP_perm h1, cntP_perm h2, sumP_perm h1, sumP_perm h2]
theorem isum_bound {l : List Int} {c : Nat} (h : ∀ x, x ∈ l → 0 ≤ x ∧ x ≤ c) : 0 ≤ l.sum ∧ l.sum ≤ ((l.length * c : Nat) : Int) := by
 induction l with
 | nil => simp
 | cons x l ih =>
  have h1 := ih fun y hy => h y (List.mem_cons_of_mem _ hy)
  have h2 := h x (by simp)
  rw [List.sum_cons, List.length_cons, Nat.add_mul]; omega
theorem cntP_le (l : List Int) : cntP l ≤ 4096 := by
 unfold cntP okPl
 split
 ·rename_i h
  simp only [Bool.and_eq_true, decide_eq_true_eq] at h
  exact h.1
 ·omega
theorem sumP_le (l : List Int) : 0 ≤ sumP l ∧ sumP l ≤ 4294967296 := by
 unfold sumP
 split
 ·rename_i h
  simp only [okPl, Bool.and_eq_true, decide_eq_true_eq, List.all_eq_true] at h
  have h1 := isum_bound (c := 1048576) h.2
  have h2 : l.length * 1048576 ≤ 4096 * 1048576 := Nat.mul_le_mul_right _ h.1
  omega
 ·omega
theorem prodP_le (a b : List Int) : 0 ≤ sumP a * cntP b ∧ sumP a * cntP b ≤ 17592186044416 := by
 have h1 := sumP_le a
 have h2 := cntP_le b
 constructor
 ·exact Int.mul_nonneg h1.1 (by omega)
 ·have h3 : sumP a * cntP b ≤ 4294967296 * (cntP b : Int) := Int.mul_le_mul_of_nonneg_right h1.2 (by omega)
  omega
theorem flatMap_append_perm {α β : Type} (f g : α → List β) : ∀ m : List α, (m.flatMap fun y => f y ++ g y).Perm (m.flatMap f ++ m.flatMap g)
 | [] => List.Perm.refl _
 | y :: m => by
  rw [List.flatMap_cons, List.flatMap_cons, List.flatMap_cons, List.append_assoc, List.append_assoc]
  refine List.Perm.append_left _ ?_
  refine ((flatMap_append_perm f g m).append_left (g y)).trans ?_
  rw [← List.append_assoc, ← List.append_assoc]
  exact List.perm_append_comm.append_right _
theorem flatMap_swap {α β γ : Type} (g : α → β → List γ) (m : List β) : ∀ l : List α, (l.flatMap fun x => m.flatMap (g x)).Perm (m.flatMap fun y => l.flatMap fun x => g x y)
 | [] => by simp
 | x :: l => by
  rw [List.flatMap_cons]
  refine ((flatMap_swap g m l).append_left _).trans ?_
  refine (flatMap_append_perm (g x) (fun y => l.flatMap fun x => g x y) m).symm.trans ?_
  simp only [List.flatMap_cons]
  exact List.Perm.refl _
end Go.Stb
namespace Go.Stb
variable {α : Type} {R : α → α → Prop}

theorem last_le (h : Ord R) {l : List α} {x z : α} (hs : l.Pairwise R) (hz : l.getLast? = some z) (hx : x ∈ l) : x = z ∨ R x z := by
 obtain ⟨l', rfl⟩ : ∃ l', l = l' ++ [z] := by
  rcases List.eq_nil_or_concat l with rfl | ⟨l', w, rfl⟩
  ·simp at hz
  ·refine ⟨l', ?_⟩
   rw [List.concat_eq_append] at hz ⊢
   simp at hz; rw [hz]
 rcases List.mem_append.1 hx with hx | hx
 ·exact .inr ((List.pairwise_append.1 hs).2.2 x hx z (by simp))
 ·exact .inl (List.mem_singleton.1 hx)
theorem head_le (h : Ord R) {l : List α} {x z : α} (hs : l.Pairwise R) (hz : l.head? = some z) (hx : x ∈ l) : x = z ∨ R z x := by
 cases l with
 | nil => cases hx
 | cons w l =>
  have : w = z := by simpa using hz
  subst this
  rcases List.mem_cons.1 hx with rfl | hx
  ·exact .inl rfl
  ·exact .inr ((List.pairwise_cons.1 hs).1 x hx)
theorem join_sorted (h : Ord R) {u v : List α} (su : u.Pairwise R) (sv : v.Pairwise R) (huv : ∀ x, u.getLast? = some x → ∀ y, v.head? = some y → R x y) : (u ++ v).Pairwise R := by
 refine List.pairwise_append.2 ⟨su, sv, fun x hx y hy => ?_⟩
 obtain ⟨z, hz⟩ : ∃ z, u.getLast? = some z := by
  cases hu : u.getLast? with
  | none => rw [List.getLast?_eq_none_iff] at hu; subst hu; cases hx
  | some z => exact ⟨z, rfl⟩
 obtain ⟨w, hw⟩ : ∃ w, v.head? = some w := by
  cases v with
  | nil => cases hy
  | cons w v => exact ⟨w, rfl⟩
 have hzw := huv z hz w hw
 have hxw : R x w := by
  rcases last_le h su hz hx with rfl | h3
  ·exact hzw
  ·exact h.trans x z w h3 hzw
 rcases head_le h sv hw hy with rfl | h4
 ·exact hxw
 ·exact h.trans x w y hxw h4
theorem last_take {l : List α} {k : Nat} {x : α} (hk : k ≤ l.length) (h : (l.take k).getLast? = some x) : 0 < k ∧ l[k - 1]? = some x := by
 rcases Nat.eq_zero_or_pos k with rfl | h0
 ·simp at h
 ·refine ⟨h0, ?_⟩
  rw [List.getLast?_eq_getElem?, List.length_take, Nat.min_eq_left hk, List.getElem?_take, if_pos (by omega)] at h
  exact h
theorem head_drop {l : List α} {k : Nat} {x : α} (h : (l.drop k).head? = some x) : l[k]? = some x := by
 rw [List.head?_drop] at h; exact h
theorem put_sorted (h : Ord R) {A : List α} {y : α} {i : Nat} (hi : i ≤ A.length) (hA : A.Pairwise R) (h1 : ∀ x, 0 < i → A[i - 1]? = some x → R x y) (h2 : ∀ x, A[i]? = some x → R y x) :
  (A.take i ++ y :: A.drop i).Pairwise R := by
 have sp := List.take_append_drop i A
 rw [← sp] at hA
 obtain ⟨s1, s2, _⟩ := List.pairwise_append.1 hA
 have e : A.take i ++ y :: A.drop i = (A.take i ++ [y]) ++ A.drop i := by simp
 rw [e]
 refine join_sorted h (join_sorted h s1 (List.pairwise_singleton _ _) fun x hx z hz => ?_) s2 fun x hx z hz => ?_
 ·obtain ⟨h3, h4⟩ := last_take hi hx
  have : y = z := by simpa using hz
  subst this; exact h1 x h3 h4
 ·have : y = x := by simpa using hx
  subst this; exact h2 z (head_drop hz)
theorem merge_split (h : Ord R) {A B T : List α} {k q : Nat} (hk : k ≤ A.length) (hq : q ≤ B.length) (hA : A.Pairwise R) (hB : B.Pairwise R) (hT : T.Pairwise R) (hp : T.Perm (A ++ B)) (hn : (A ++ B).Nodup)
  (h1 : ∀ x y, 0 < k → A[k - 1]? = some x → B[q]? = some y → R x y) (h2 : ∀ x y, 0 < q → B[q - 1]? = some x → A[k]? = some y → R x y) :
  ∃ T1 T2, T = T1 ++ T2 ∧ T1.Perm (A.take k ++ B.take q) ∧ T2.Perm (A.drop k ++ B.drop q) ∧ T1.Pairwise R ∧ T2.Pairwise R := by
 have ea := List.take_append_drop k A
 have eb := List.take_append_drop q B
 have hpp : (A ++ B).Perm ((A.take k ++ B.take q) ++ (A.drop k ++ B.drop q)) := by
  have e1 : A ++ B = A.take k ++ (A.drop k ++ B.take q) ++ B.drop q := by
   rw [← List.append_assoc (A.take k), ea, List.append_assoc, eb]
  have e2 : (A.take k ++ B.take q) ++ (A.drop k ++ B.drop q) = A.take k ++ (B.take q ++ A.drop k) ++ B.drop q := by simp
  rw [e1, e2]
  exact (List.perm_append_comm.append_left _).append_right _
 refine split_sorted h (hp.trans hpp) hT ?_ (hpp.nodup_iff.1 hn)
 refine halves h (by rw [ea]; exact hA) (by rw [eb]; exact hB) (fun x hx y hy => ?_) (fun x hx y hy => ?_)
 ·obtain ⟨c1, c2⟩ := last_take hk hx
  exact h1 x y c1 c2 (head_drop hy)
 ·obtain ⟨c1, c2⟩ := last_take hq hx
  exact h2 x y c1 c2 (head_drop hy)
end Go.Stb
