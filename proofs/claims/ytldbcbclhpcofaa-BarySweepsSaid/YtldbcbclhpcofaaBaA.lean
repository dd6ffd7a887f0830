/- Barycenters: what ordering a layer computes (no program in sight). -/
import Derived.Test.YtldbcbclhpcofaaCf
import Derived.Test.YtldbcbclhpcofaaPSBridge
set_option linter.unusedSimpArgs false
set_option linter.unusedVariables false
namespace Go.Proofs.Ytldbcbclhpcofaa
open Go Go.PS Go.Proofs
open Go.Stb

def plcA (y : List Int) (v : Int) (x : Arc) : List Int := (if x.1 = v ∧ 0 ≤ placeF y x.2 then [placeF y x.2] else []) ++ (if x.2 = v ∧ 0 ≤ placeF y x.1 then [placeF y x.1] else [])
def plcF (y : List Int) (ar : List Arc) (v : Int) : List Int := ar.flatMap (plcA y v)
def nearA (v u : Int) (k : Nat) (x : Arc) : List Int := if (x.1 = u ∧ x.2 = v) ∨ (x.1 = v ∧ x.2 = u) then [(k : Int)] else []
def nearF (y : List Int) (ar : List Arc) (v : Int) : List Int := (List.range y.length).flatMap fun k : Nat => ar.flatMap (nearA v (at0 y k) k)
theorem placeF_range (y : List Int) (v : Int) : -1 ≤ placeF y v ∧ placeF y v < y.length := by
 by_cases h : v ∈ y
 ·obtain ⟨k, hk⟩ := List.getElem?_of_mem h
  have h1 := placeF_mem y v
  rw [decide_eq_true h, decide_eq_true_eq] at h1
  refine ⟨by omega, ?_⟩
  rw [placeF]
  rw [placeF] at h1
  cases hf : y.findIdx? (fun x => decide (x = v)) with
  | none => rw [hf] at h1; simp [idxI] at h1
  | some j =>
   have := (List.findIdx?_eq_some_iff_getElem.1 hf).1
   simp only [idxI]; omega
 ·rw [placeF_no h]; omega
theorem hit_place {y : List Int} (hn : y.Nodup) (u : Int) {n : Nat} (h : n < y.length) : at0 y n = u ↔ placeF y u = n := by
 have hg := at0_at h
 constructor
 ·intro e; rw [e] at hg; exact placeF_at hn hg
 ·intro e
  have h1 := placeF_mem y u
  have h2 : u ∈ y := by
   by_cases c : u ∈ y
   ·exact c
   ·rw [placeF_no c] at e; omega
  obtain ⟨k, hk⟩ := List.getElem?_of_mem h2
  have := placeF_at hn hk
  have : k = n := by omega
  subst this
  rw [hg, Option.some.injEq] at hk; exact hk
theorem hits {y : List Int} (hn : y.Nodup) (u : Int) : ∀ n, n ≤ y.length → ((List.range n).flatMap fun k : Nat => if at0 y k = u then [(k : Int)] else []) = if 0 ≤ placeF y u ∧ placeF y u < n then [placeF y u] else []
 | 0, _ => by
  rw [if_neg (by omega)]; rfl
 | n + 1, h => by
  rw [List.range_succ, List.flatMap_append, hits hn u n (by omega), List.flatMap_cons, List.flatMap_nil, List.append_nil]
  have h1 := hit_place hn u (n := n) (by omega)
  by_cases c : at0 y n = u
  ·have := h1.1 c
   rw [if_pos c, if_neg (by omega), if_pos (by omega), this]; rfl
  ·rw [if_neg c, List.append_nil]
   have : placeF y u ≠ n := fun e => c (h1.2 e)
   by_cases c2 : 0 ≤ placeF y u ∧ placeF y u < n
   ·rw [if_pos c2, if_pos (by omega)]
   ·rw [if_neg c2, if_neg (by omega)]
theorem hits_all {y : List Int} (hn : y.Nodup) (u : Int) : ((List.range y.length).flatMap fun k : Nat => if at0 y k = u then [(k : Int)] else []) = if 0 ≤ placeF y u then [placeF y u] else [] := by
 rw [hits hn u _ (Nat.le_refl _)]
 have := placeF_range y u
 by_cases c : 0 ≤ placeF y u
 ·rw [if_pos c, if_pos ⟨c, this.2⟩]
 ·rw [if_neg c, if_neg (fun h => c h.1)]
theorem near_perm {y : List Int} (hn : y.Nodup) {ar : List Arc} (hl : ∀ x, x ∈ ar → x.1 ≠ x.2) (v : Int) : (nearF y ar v).Perm (plcF y ar v) := by
 refine (flatMap_swap (fun (k : Nat) (x : Arc) => nearA v (at0 y k) k x) ar (List.range y.length)).trans ?_
 have : ∀ ar : List Arc, (∀ x, x ∈ ar → x.1 ≠ x.2) → (ar.flatMap fun x => (List.range y.length).flatMap fun k : Nat => nearA v (at0 y k) k x) = plcF y ar v := by
  intro ar hl
  induction ar with
  | nil => rfl
  | cons x ar ih =>
   rw [List.flatMap_cons, plcF, List.flatMap_cons, ih fun z hz => hl z (List.mem_cons_of_mem _ hz)]
   congr 1
   have hx := hl x (by simp)
   by_cases c1 : x.1 = v
   ·have c2 : ¬ x.2 = v := fun e => hx (c1.trans e.symm)
    have e : (fun k : Nat => nearA v (at0 y k) k x) = fun k : Nat => if at0 y k = x.2 then [(k : Int)] else [] := by
     funext k
     by_cases c3 : at0 y k = x.2
     ·rw [nearA, if_pos (.inr ⟨c1, c3.symm⟩), if_pos c3]
     ·rw [nearA, if_neg (fun h => by
       rcases h with h | h
       ·exact c2 h.2
       ·exact c3 h.2.symm), if_neg c3]
    rw [e, hits_all hn, plcA]
    by_cases c3 : 0 ≤ placeF y x.2
    ·rw [if_pos c3, if_pos ⟨c1, c3⟩, if_neg (fun h => c2 h.1)]; rfl
    ·rw [if_neg c3, if_neg (fun h => c3 h.2), if_neg (fun h => c2 h.1)]; rfl
   ·by_cases c2 : x.2 = v
    ·have e : (fun k : Nat => nearA v (at0 y k) k x) = fun k : Nat => if at0 y k = x.1 then [(k : Int)] else [] := by
      funext k
      by_cases c3 : at0 y k = x.1
      ·rw [nearA, if_pos (.inl ⟨c3.symm, c2⟩), if_pos c3]
      ·rw [nearA, if_neg (fun h => by
        rcases h with h | h
        ·exact c3 h.1.symm
        ·exact c1 h.1), if_neg c3]
     rw [e, hits_all hn, plcA]
     by_cases c3 : 0 ≤ placeF y x.1
     ·rw [if_pos c3, if_neg (fun h => c1 h.1), if_pos ⟨c2, c3⟩]; rfl
     ·rw [if_neg c3, if_neg (fun h => c1 h.1), if_neg (fun h => c3 h.2)]; rfl
    ·have e : (fun k : Nat => nearA v (at0 y k) k x) = fun k : Nat => [] := by
      funext k
      rw [nearA, if_neg (fun h => by
       rcases h with h | h
       ·exact c2 h.2
       ·exact c1 h.1)]
     rw [e, plcA, if_neg (fun h => c1 h.1), if_neg (fun h => c2 h.1)]
     simp
 rw [this ar hl]
theorem plcF_len (y : List Int) (v : Int) : ∀ ar : List Arc, (plcF y ar v).length ≤ 2 * ar.length
 | [] => by simp [plcF]
 | x :: ar => by
  have ih := plcF_len y v ar
  have : (plcA y v x).length ≤ 2 := by
   rw [plcA]; split <;> split <;> simp
  rw [plcF] at ih ⊢
  rw [List.flatMap_cons, List.length_append, List.length_cons]; omega
def downP (p : Nat → List Int) (T : List Nat) (k : Nat) : Nat → Nat
 | 0 => 0
 | n + 1 => if 0 < cmpP (p ((T[n]?).getD 0)) (p k) then downP p T k n else n + 1
def insP (p : Nat → List Int) (T : List Nat) (k : Nat) : List Nat := T.take (downP p T k T.length) ++ k :: T.drop (downP p T k T.length)
def sortP (p : Nat → List Int) (l : List Nat) : List Nat := l.foldl (insP p) []
theorem downP_le (p : Nat → List Int) (T : List Nat) (k : Nat) : ∀ n, downP p T k n ≤ n
 | 0 => Nat.le_refl _
 | n + 1 => by rw [downP]; have := downP_le p T k n; split <;> omega
theorem insP_perm (p : Nat → List Int) (T : List Nat) (k : Nat) : (insP p T k).Perm (k :: T) := by
 rw [insP]
 refine List.perm_middle.trans ?_
 rw [List.take_append_drop]
theorem downP_low (p : Nat → List Int) (T : List Nat) (k : Nat) : ∀ n, 0 < downP p T k n → ¬ 0 < cmpP (p ((T[downP p T k n - 1]?).getD 0)) (p k)
 | 0, h => by rw [downP] at h; omega
 | n + 1, h => by
  rw [downP] at h ⊢
  split
  ·rename_i c
   rw [if_pos c] at h
   exact downP_low p T k n h
  ·rename_i c
   exact c
theorem downP_high (p : Nat → List Int) (T : List Nat) (k : Nat) : ∀ n, downP p T k n < n → 0 < cmpP (p ((T[downP p T k n]?).getD 0)) (p k)
 | 0, h => by omega
 | n + 1, h => by
  rw [downP] at h ⊢
  split
  ·rename_i c
   rw [if_pos c] at h
   by_cases c2 : downP p T k n < n
   ·exact downP_high p T k n c2
   ·have := downP_le p T k n
    have : downP p T k n = n := by omega
    rw [this]; exact c
  ·rename_i c
   rw [if_neg c] at h; omega
theorem insP_sorted {p : Nat → List Int} {T : List Nat} {k : Nat} (hs : T.Pairwise (ordP p)) (hk : ∀ j, j ∈ T → j < k) : (insP p T k).Pairwise (ordP p) := by
 have hle := downP_le p T k T.length
 refine put_sorted (ordP_ord p) hle hs (fun x h0 hx => ?_) (fun x hx => ?_)
 ·have := downP_low p T k T.length h0
  rw [hx, Option.getD_some] at this
  exact .inr ⟨fun h => this (by have := cmpP_anti (p x) (p k); omega), hk x (List.mem_of_getElem? hx)⟩
 ·have h1 := (List.getElem?_eq_some_iff.1 hx).1
  have := downP_high p T k T.length h1
  rw [hx, Option.getD_some] at this
  exact .inl (by have := cmpP_anti (p k) (p x); omega)
theorem sortP_snoc (p : Nat → List Int) (l : List Nat) (k : Nat) : sortP p (l ++ [k]) = insP p (sortP p l) k := by simp [sortP]
theorem sortP_perm (p : Nat → List Int) (l : List Nat) : (sortP p l).Perm l := by
 have : ∀ (l T : List Nat), (l.foldl (insP p) T).Perm (l ++ T) := by
  intro l
  induction l with
  | nil => intro T; exact List.Perm.refl _
  | cons k l ih =>
   intro T
   rw [List.foldl_cons]
   refine (ih _).trans (((insP_perm p T k).append_left l).trans ?_)
   exact List.perm_middle
 have h := this l []
 rw [List.append_nil] at h; exact h
theorem sortP_sorted {p : Nat → List Int} {l : List Nat} (hl : l.Pairwise (· < ·)) : (sortP p l).Pairwise (ordP p) := by
 have : ∀ (l T : List Nat), T.Pairwise (ordP p) → l.Pairwise (· < ·) → (∀ j, j ∈ T → ∀ k, k ∈ l → j < k) → (l.foldl (insP p) T).Pairwise (ordP p) := by
  intro l
  induction l with
  | nil => intro T h _ _; exact h
  | cons k l ih =>
   intro T h1 h2 h3
   rw [List.pairwise_cons] at h2
   rw [List.foldl_cons]
   refine ih _ (insP_sorted h1 fun j hj => h3 j hj k (by simp)) h2.2 fun j hj q hq => ?_
   rcases List.mem_cons.1 ((insP_perm p T k).mem_iff.1 hj) with rfl | hj
   ·exact h2.1 q hq
   ·exact h3 j hj q (List.mem_cons_of_mem _ hq)
 exact this l [] List.Pairwise.nil hl (fun j hj => by cases hj)
def hasN (y z : List Int) (ar : List Arc) (k : Nat) : Bool := !(plcF z ar (at0 y k)).isEmpty
def freeN (y z : List Int) (ar : List Arc) (n : Nat) : List Nat := (List.range n).filter (hasN y z ar)
def sortB (y z : List Int) (ar : List Arc) : List Nat := sortP (fun k => plcF z ar (at0 y k)) (freeN y z ar y.length)
def ordB (y z : List Int) (ar : List Arc) : List Int := (List.range y.length).map fun k => if hasN y z ar k then at0 y (((sortB y z ar)[(freeN y z ar k).length]?).getD 0 : Nat) else at0 y k
theorem freeN_succ (y z : List Int) (ar : List Arc) (n : Nat) : freeN y z ar (n + 1) = if hasN y z ar n then freeN y z ar n ++ [n] else freeN y z ar n := by
 rw [freeN, List.range_succ, List.filter_append, List.filter_cons, List.filter_nil]
 split <;> simp [freeN]
theorem freeN_inc (y z : List Int) (ar : List Arc) (n : Nat) : (freeN y z ar n).Pairwise (· < ·) := List.Pairwise.filter _ List.pairwise_lt_range
theorem freeN_lt {y z : List Int} {ar : List Arc} {n k : Nat} (h : k ∈ freeN y z ar n) : k < n ∧ hasN y z ar k = true := by
 rw [freeN, List.mem_filter, List.mem_range] at h; exact h
theorem freeN_at {y z : List Int} {ar : List Arc} : ∀ {n k : Nat}, k < n → hasN y z ar k = true → (freeN y z ar n)[(freeN y z ar k).length]? = some k
 | 0, _, h, _ => by omega
 | n + 1, k, h, hk => by
  rcases Nat.lt_or_ge k n with c | c
  ·have ih := freeN_at c hk
   rw [freeN_succ]
   split
   ·rw [List.getElem?_append_left (List.getElem?_eq_some_iff.1 ih).1]; exact ih
   ·exact ih
  ·have : k = n := by omega
   subst this
   rw [freeN_succ, if_pos hk, List.getElem?_append_right (Nat.le_refl _), Nat.sub_self]; rfl
theorem sortB_perm (y z : List Int) (ar : List Arc) : (sortB y z ar).Perm (freeN y z ar y.length) := sortP_perm _ _
theorem sortB_len (y z : List Int) (ar : List Arc) : (sortB y z ar).length = (freeN y z ar y.length).length := (sortB_perm y z ar).length_eq
def ordO (y z : List Int) (ar : List Arc) : List Nat := (List.range y.length).map fun k => if hasN y z ar k then ((sortB y z ar)[(freeN y z ar k).length]?).getD 0 else k
theorem ordB_eq (y z : List Int) (ar : List Arc) : ordB y z ar = permL y (ordO y z ar) := by
 rw [ordB, permL, ordO, List.map_map]
 refine List.map_congr_left fun k _ => ?_
 simp only [Function.comp_apply, at0, Int.toNat_natCast]
 split <;> rfl
theorem sortB_at {y z : List Int} {ar : List Arc} {k : Nat} (hk : k < y.length) (h : hasN y z ar k = true) :
  ∃ t, (sortB y z ar)[(freeN y z ar k).length]? = some t ∧ t < y.length ∧ hasN y z ar t = true := by
 have h1 := (List.getElem?_eq_some_iff.1 (freeN_at hk h)).1
 rw [← sortB_len] at h1
 obtain ⟨t, ht⟩ := get_some h1
 have h2 := (sortB_perm y z ar).mem_iff.1 (List.mem_of_getElem? ht)
 exact ⟨t, ht, freeN_lt h2⟩
theorem nodup_get {l : List Nat} (hn : l.Nodup) {i j x : Nat} (hi : l[i]? = some x) (hj : l[j]? = some x) : i = j := by
 obtain ⟨i1, e1⟩ := List.getElem?_eq_some_iff.1 hi
 obtain ⟨j1, e2⟩ := List.getElem?_eq_some_iff.1 hj
 have hp := List.pairwise_iff_getElem.1 hn
 rcases Nat.lt_trichotomy i j with h | h | h
 ·exact absurd (e1.trans e2.symm) (hp i j i1 j1 h)
 ·exact h
 ·exact absurd (e2.trans e1.symm) (hp j i j1 i1 h)
theorem sortB_nodup (y z : List Int) (ar : List Arc) : (sortB y z ar).Nodup :=
 (sortB_perm y z ar).nodup_iff.2 ((freeN_inc y z ar y.length).imp fun h => Nat.ne_of_lt h)
theorem freeN_inj {y z : List Int} {ar : List Arc} {j k n : Nat} (hj : j < n) (hk : k < n) (h1 : hasN y z ar j = true) (h2 : hasN y z ar k = true) (he : (freeN y z ar j).length = (freeN y z ar k).length) : j = k := by
 have e1 := freeN_at hj h1
 have e2 := freeN_at hk h2
 rw [he, e2, Option.some.injEq] at e1
 exact e1.symm
theorem ordO_part (y z : List Int) (ar : List Arc) : Go.Bd.Part y.length 0 (ordO y z ar) := by
 refine ⟨?_, fun v hv => ?_, by simp [ordO]⟩
 ·rw [ordO, List.nodup_iff_pairwise_ne, List.pairwise_map]
  refine List.Pairwise.imp_of_mem (R := (· < ·)) (fun {j k} hj hk hlt => ?_) List.pairwise_lt_range
  rw [List.mem_range] at hj hk
  rcases c1 : hasN y z ar j with _ | _ <;> rcases c2 : hasN y z ar k with _ | _ <;> simp only [if_true, if_false, Bool.false_eq_true]
  ·omega
  ·obtain ⟨t, h1, h2, h3⟩ := sortB_at hk c2
   rw [h1, Option.getD_some]
   rintro rfl
   rw [c1] at h3; cases h3
  ·obtain ⟨t, h1, h2, h3⟩ := sortB_at hj c1
   rw [h1, Option.getD_some]
   rintro rfl
   rw [c2] at h3; cases h3
  ·obtain ⟨t, h1, h2, h3⟩ := sortB_at hj c1
   obtain ⟨u, g1, g2, g3⟩ := sortB_at hk c2
   rw [h1, g1, Option.getD_some, Option.getD_some]
   rintro rfl
   have := nodup_get (sortB_nodup y z ar) h1 g1
   have := freeN_inj hj hk c1 c2 this
   omega
 ·obtain ⟨k, hk, rfl⟩ := List.mem_map.1 hv
  rw [List.mem_range] at hk
  rcases c1 : hasN y z ar k with _ | _ <;> simp only [if_true, if_false, Bool.false_eq_true]
  ·exact hk
  ·obtain ⟨t, h1, h2, h3⟩ := sortB_at hk c1
   rw [h1]; exact h2
theorem ordB_perm {y : List Int} (hn : y.Nodup) (z : List Int) (ar : List Arc) : (ordB y z ar).Perm y := by
 rw [ordB_eq]; exact permL_perm hn (ordO_part y z ar)
theorem ordB_len (y z : List Int) (ar : List Arc) : (ordB y z ar).length = y.length := by simp [ordB]
def layB (b : Lv) (i f : Nat) : Lv := putL b i (ordB (lstN b.2.1 i) (lstN b.2.1 f) b.2.2.1)
theorem layB_kin {a b : Lv} (h : Kin a b) {i : Nat} (hi : i < a.2.1.length) (f : Nat) : Kin a (layB b i f) :=
 h.put (h.lay hi) (ordB_perm (layer_nodup h.ok (h.lay hi)) _ _)
def dwnB (b : Lv) : Nat → Lv
 | 0 => b
 | k + 1 => layB (dwnB b k) (k + 1) k
def upB (b : Lv) (n : Nat) : Nat → Lv
 | 0 => b
 | k + 1 => layB (upB b n k) (n - 2 - k) (n - 1 - k)
def swB (b : Lv) : Lv := upB (dwnB b (b.2.1.length - 1)) b.2.1.length (b.2.1.length - 1)
theorem dwnB_kin {a b : Lv} (h : Kin a b) : ∀ k, k ≤ a.2.1.length - 1 → Kin a (dwnB b k)
 | 0, _ => h
 | k + 1, hk => layB_kin (dwnB_kin h k (by omega)) (by omega) k
theorem upB_kin {a b : Lv} (h : Kin a b) : ∀ k, k ≤ a.2.1.length - 1 → Kin a (upB b a.2.1.length k)
 | 0, _ => h
 | k + 1, hk => layB_kin (upB_kin h k (by omega)) (by omega) _
theorem swB_kin {a b : Lv} (h : Kin a b) : Kin a (swB b) := by
 rw [swB, h.len]
 exact upB_kin (dwnB_kin h _ (Nat.le_refl _)) _ (Nat.le_refl _)
def nowB (a : Lv) : Nat → Lv
 | 0 => a
 | k + 1 => swB (nowB a k)
def bstB (a : Lv) : Nat → Lv
 | 0 => a
 | k + 1 => if TotalF (nowB a (k + 1)) < TotalF (bstB a k) then nowB a (k + 1) else bstB a k
theorem nowB_kin {a : Lv} (hv : validF a = true) (hw : wide a) : ∀ k, Kin a (nowB a k)
 | 0 => Kin.refl hv hw
 | k + 1 => swB_kin (nowB_kin hv hw k)
theorem bstB_kin {a : Lv} (hv : validF a = true) (hw : wide a) : ∀ k, Kin a (bstB a k)
 | 0 => Kin.refl hv hw
 | k + 1 => by
  rw [bstB]
  split
  ·exact nowB_kin hv hw (k + 1)
  ·exact bstB_kin hv hw k
theorem bstB_step (a : Lv) (k : Nat) : TotalF (bstB a (k + 1)) ≤ TotalF (bstB a k) := by
 rw [bstB]; split <;> omega
theorem bstB_le (a : Lv) : ∀ k, TotalF (bstB a k) ≤ TotalF a
 | 0 => Int.le_refl _
 | k + 1 => Int.le_trans (bstB_step a k) (bstB_le a k)
def rndB (r : Int) : Nat := (min (max r 0) 100).toNat
def barF (a : Lv) (i f : Int) : Lv := if matOk a i f then layB a i.toNat f.toNat else lv0
def swpF (a : Lv) : Lv := if validF a then swB a else lv0
def brnF (a : Lv) (r : Int) : Lv × Int := if validF a then (bstB a (rndB r), TotalF (bstB a (rndB r))) else (lv0, 0)
theorem matOk_in {a : Lv} {i f : Int} (h : matOk a i f = true) : validF a = true ∧ (0 ≤ i ∧ i < a.2.1.length) ∧ (0 ≤ f ∧ f < a.2.1.length) ∧ (f = i - 1 ∨ f = i + 1) := by
 simp only [matOk, Bool.and_eq_true, decide_eq_true_eq] at h
 obtain ⟨⟨⟨h1, h2⟩, h3⟩, h4⟩ := h
 exact ⟨h1, h2, h3, h4⟩
end Go.Proofs.Ytldbcbclhpcofaa
namespace Go.Proofs.Ytldbcbclhpcofaa
open Go Go.PS Go.Proofs
open Go.Stb
set_option maxRecDepth 100000
attribute [local irreducible] wpRun wpG CallsTo CallsM

def okP1 (x : Int) : Bool := decide (0 ≤ x ∧ x ≤ 1048576)
theorem okPl_eq (l : List Int) : okPl l = (decide (l.length ≤ 4096) && l.all okP1) := rfl
theorem bsum_bound {l : List Int} (h : ∀ x, x ∈ l → okP1 x = true) : 0 ≤ l.sum ∧ l.sum ≤ ((l.length * 1048576 : Nat) : Int) :=
 isum_bound fun x hx => by
  have := h x hx
  rw [okP1, decide_eq_true_eq] at this
  exact this
theorem sum_snoc {l : List Int} {k : Nat} {x : Int} (h : l[k]? = some x) : (l.take (k + 1)).sum = (l.take k).sum + x := by
 rw [take_snoc h, List.sum_append]; simp
theorem all_at {l : List Int} {k : Nat} {x : Int} (h : l[k]? = some x) (hx : okP1 x = false) : l.all okP1 = false := by
 rw [List.all_eq_false]
 exact ⟨x, List.mem_of_getElem? h, by rw [hx]; decide⟩
theorem all_take {l : List Int} (h : ∀ x, x ∈ l.take l.length → okP1 x = true) : l.all okP1 = true := by
 rw [List.take_length] at h
 rw [List.all_eq_true]; exact h
set_option maxHeartbeats 1000000 in
theorem bsum_spec (l : List Int) : CallsTo Try.prog 24 [intsD l] (.tup [.int (sumP l), .int (cntP l)]) := by
 rw [sumP, cntP, okPl_eq]
 refine callsTo_of Try.func24 rfl (by decide +kernel) (Nat.le_of_ble_eq_true rfl) ?_
 intro hat B X w0
 by_cases hl : l.length ≤ 4096
 ·repeat' first | refine pw_seq ?_ | refine pw_skip ?_ | refine pw_ret ?_ | refine pw_exit ?_ | refine pw_block ?_ | refine pw_region (fun _ => false) hmix ?_ | (refine wpG_split rfl rfl (fun hc => ?_) (fun hc => ?_) <;> try simp only [hcL, reduceCtorEq] at hc) | (refine pw_cond _ rfl rfl (fun hc => ?_) (fun hc => ?_) <;> (try simp only [hcL, reduceCtorEq] at hc) <;> try (exfalso; omega)) | simp (maxSteps := 1000000) (disch := omega) only [go_sem, simprocAttr] | apply And.intro | omega | decide +kernel
  refine pw_loopI (κ := Nat) (fun (k : Nat) => k ≤ l.length ∧ (∀ x, x ∈ l.take k → okP1 x = true)) (fun (k : Nat) => [(0, .d (intsD l)), (4, .int (l.take k).sum), (10, .d (intsD l)), (11, .int l.length), (12, .int k)]) (fun (k : Nat) => []) (fun (k : Nat) => l.length - k) 0 ?_ ?_ ?_
  ·exact ⟨Nat.zero_le _, fun x hx => by rw [List.take_zero] at hx; cases hx⟩
  ·exact eL [] _ _ (by refine ⟨?_, ?_⟩ <;> (repeat' first | exact List.forall_mem_nil _ | refine List.forall_mem_cons.2 ⟨(by first | rfl | (simp (disch := omega) only [go_sem, simprocAttr, inL, List.take_zero, List.sum_nil]; first | done | omega | (congr 1; done))), ?_⟩); done)
  ·rintro k ⟨hk, hinv⟩
   have hb := bsum_bound hinv
   rw [List.length_take, Nat.min_eq_left hk] at hb
   rcases Nat.lt_or_ge k l.length with hlt | hge
   ·obtain ⟨x, hx⟩ := get_some hlt
    have e1 := sum_snoc hx
    by_cases c : 0 ≤ x ∧ x ≤ 1048576
    ·obtain ⟨c1, c2⟩ := c
     repeat' first | refine pw_seq ?_ | refine pw_skip ?_ | refine pw_ret ?_ | refine pw_exit ?_ | refine pw_block ?_ | refine pw_region (fun _ => false) hmix ?_ | (refine wpG_split rfl rfl (fun hc => ?_) (fun hc => ?_) <;> try simp only [hcL, reduceCtorEq] at hc) | (refine pw_cond _ rfl rfl (fun hc => ?_) (fun hc => ?_) <;> (try simp only [hcL, reduceCtorEq] at hc) <;> try (exfalso; omega)) | simp (maxSteps := 1000000) (disch := omega) only [go_sem, simprocAttr, hx] | apply And.intro | omega | decide +kernel
     refine ⟨k + 1, ?_, eL [] _ _ (by refine ⟨?_, ?_⟩ <;> (repeat' first | exact List.forall_mem_nil _ | refine List.forall_mem_cons.2 ⟨(by first | rfl | (simp (disch := omega) only [go_sem, simprocAttr, inL, e1]; first | done | omega | (congr 1; done))), ?_⟩); done), ?_⟩
     ·refine ⟨by omega, fun y hy => ?_⟩
      rw [take_snoc hx] at hy
      rcases List.mem_append.1 hy with hy | hy
      ·exact hinv y hy
      ·rw [List.mem_singleton.1 hy, okP1, decide_eq_true ⟨c1, c2⟩]
     ·omega
    ·rw [all_at hx (by rw [okP1, decide_eq_false c]), Bool.and_false, if_neg (by decide), if_neg (by decide)]
     repeat' first | refine pw_seq ?_ | refine pw_skip ?_ | refine pw_ret ?_ | refine pw_exit ?_ | refine pw_block ?_ | refine pw_region (fun _ => false) hmix ?_ | (refine wpG_split rfl rfl (fun hc => ?_) (fun hc => ?_) <;> try simp only [hcL, reduceCtorEq] at hc) | (refine pw_cond _ rfl rfl (fun hc => ?_) (fun hc => ?_) <;> (try simp only [hcL, reduceCtorEq] at hc) <;> try (exfalso; omega)) | simp (maxSteps := 1000000) (disch := omega) only [go_sem, simprocAttr, hx] | apply And.intro | omega | decide +kernel
     all_goals exact ⟨_, rfl, int_some rfl, int_some rfl, trivial⟩
   ·have : k = l.length := by omega
    subst this
    rw [all_take hinv, decide_eq_true hl, Bool.true_and, if_pos rfl, if_pos rfl]
    repeat' first | refine pw_seq ?_ | refine pw_skip ?_ | refine pw_ret ?_ | refine pw_exit ?_ | refine pw_block ?_ | refine pw_region (fun _ => false) hmix ?_ | (refine wpG_split rfl rfl (fun hc => ?_) (fun hc => ?_) <;> try simp only [hcL, reduceCtorEq] at hc) | (refine pw_cond _ rfl rfl (fun hc => ?_) (fun hc => ?_) <;> (try simp only [hcL, reduceCtorEq] at hc) <;> try (exfalso; omega)) | simp (maxSteps := 1000000) (disch := omega) only [go_sem, simprocAttr] | apply And.intro | omega | decide +kernel
    refine ⟨_, rfl, int_some ?_, int_some rfl, trivial⟩
    rw [List.take_length]
 ·rw [decide_eq_false hl, Bool.false_and, if_neg (by decide), if_neg (by decide)]
  have hl2 := at_len 0 hat rfl
  rw [List.length_map] at hl2
  repeat' first | refine pw_seq ?_ | refine pw_skip ?_ | refine pw_ret ?_ | refine pw_exit ?_ | refine pw_block ?_ | refine pw_region (fun _ => false) hmix ?_ | (refine wpG_split rfl rfl (fun hc => ?_) (fun hc => ?_) <;> try simp only [hcL, reduceCtorEq] at hc) | (refine pw_cond _ rfl rfl (fun hc => ?_) (fun hc => ?_) <;> (try simp only [hcL, reduceCtorEq] at hc) <;> try (exfalso; omega)) | simp (maxSteps := 1000000) (disch := omega) only [go_sem, simprocAttr] | apply And.intro | omega | decide +kernel
  exact ⟨_, rfl, int_some rfl, int_some rfl, trivial⟩
theorem isNaN_spec (a : Int) : CallsTo Try.prog 40 [.int a] (.bool false) := by
 refine callsTo_of Try.func40 rfl (by decide +kernel) (Nat.le_of_ble_eq_true rfl) ?_
 intro hat B X w0
 repeat' first | refine pw_seq ?_ | refine pw_skip ?_ | refine pw_ret ?_ | refine pw_exit ?_ | refine pw_block ?_ | refine pw_region (fun _ => false) hmix ?_ | (refine wpG_split rfl rfl (fun hc => ?_) (fun hc => ?_) <;> try simp only [hcL, reduceCtorEq] at hc) | (refine pw_cond _ rfl rfl (fun hc => ?_) (fun hc => ?_) <;> (try simp only [hcL, reduceCtorEq] at hc) <;> try (exfalso; omega)) | simp (maxSteps := 1000000) (disch := omega) only [go_sem, simprocAttr] | apply And.intro | omega | decide +kernel
 exact bool_some (by simp)
theorem compare_spec (a b : Int) : CallsTo Try.prog 25 [.int a, .int b] (.int (sg a b)) := by
 have h1 := isNaN_spec a
 have h2 := isNaN_spec b
 rw [sg]
 refine callsTo_of Try.func25 rfl (by decide +kernel) (Nat.le_of_ble_eq_true rfl) ?_
 intro hat B X w0
 by_cases c1 : a < b
 ·rw [if_pos c1]
  repeat' first | refine pw_seq ?_ | refine pw_skip ?_ | refine pw_ret ?_ | refine pw_exit ?_ | refine pw_block ?_ | refine pw_region (fun _ => false) hmix ?_ | (refine rc (h1) rfl ?_ ?_; (· first | rfl | (simp (disch := omega) only [go_sem, simprocAttr, c1]; done))) | (refine rc (h2) rfl ?_ ?_; (· first | rfl | (simp (disch := omega) only [go_sem, simprocAttr, c1]; done))) | (refine wpG_split rfl rfl (fun hc => ?_) (fun hc => ?_) <;> try simp only [hcL, reduceCtorEq] at hc) | (refine pw_cond _ rfl rfl (fun hc => ?_) (fun hc => ?_) <;> (try simp only [hcL, reduceCtorEq] at hc) <;> try (exfalso; omega)) | simp (maxSteps := 1000000) (disch := omega) only [go_sem, simprocAttr, c1] | apply And.intro | omega | decide +kernel
  exact int_some rfl
 ·rw [if_neg c1]
  by_cases c2 : b < a
  ·rw [if_pos c2]
   repeat' first | refine pw_seq ?_ | refine pw_skip ?_ | refine pw_ret ?_ | refine pw_exit ?_ | refine pw_block ?_ | refine pw_region (fun _ => false) hmix ?_ | (refine rc (h1) rfl ?_ ?_; (· first | rfl | (simp (disch := omega) only [go_sem, simprocAttr, c1, c2]; done))) | (refine rc (h2) rfl ?_ ?_; (· first | rfl | (simp (disch := omega) only [go_sem, simprocAttr, c1, c2]; done))) | (refine wpG_split rfl rfl (fun hc => ?_) (fun hc => ?_) <;> try simp only [hcL, reduceCtorEq] at hc) | (refine pw_cond _ rfl rfl (fun hc => ?_) (fun hc => ?_) <;> (try simp only [hcL, reduceCtorEq] at hc) <;> try (exfalso; omega)) | simp (maxSteps := 1000000) (disch := omega) only [go_sem, simprocAttr, c1, c2] | apply And.intro | omega | decide +kernel
   exact int_some rfl
  ·rw [if_neg c2]
   repeat' first | refine pw_seq ?_ | refine pw_skip ?_ | refine pw_ret ?_ | refine pw_exit ?_ | refine pw_block ?_ | refine pw_region (fun _ => false) hmix ?_ | (refine rc (h1) rfl ?_ ?_; (· first | rfl | (simp (disch := omega) only [go_sem, simprocAttr, c1, c2]; done))) | (refine rc (h2) rfl ?_ ?_; (· first | rfl | (simp (disch := omega) only [go_sem, simprocAttr, c1, c2]; done))) | (refine wpG_split rfl rfl (fun hc => ?_) (fun hc => ?_) <;> try simp only [hcL, reduceCtorEq] at hc) | (refine pw_cond _ rfl rfl (fun hc => ?_) (fun hc => ?_) <;> (try simp only [hcL, reduceCtorEq] at hc) <;> try (exfalso; omega)) | simp (maxSteps := 1000000) (disch := omega) only [go_sem, simprocAttr, c1, c2] | apply And.intro | omega | decide +kernel
   exact int_some rfl
theorem min_one (n : Nat) : (if (1 : Int) < n then (1 : Int) else (n : Int)) = ((min n 1 : Nat) : Int) := by split <;> omega
set_option maxHeartbeats 1000000 in
theorem bCompare_spec (a b : List Int) : CallsTo Try.prog 9 [intsD a, intsD b] (.int (cmpP a b)) := by
 have h1 := bsum_spec a
 have h2 := bsum_spec b
 have h4 := compare_spec (sumP a * cntP b) (sumP b * cntP a)
 have p1 := prodP_le a b
 have p2 := prodP_le b a
 rw [cmpP]
 have m1 := min_one (cntP a)
 have m2 := min_one (cntP b)
 have z0 : ((min 0 1 : Nat) : Int) = 0 := rfl
 generalize sumP a = S at *
 generalize sumP b = T at *
 generalize cntP a = j at *
 generalize cntP b = k at *
 refine callsTo_of Try.func9 rfl (by decide +kernel) (Nat.le_of_ble_eq_true rfl) ?_
 intro hat B X w0
 by_cases c1 : j = 0
 ·rw [if_pos (.inl c1), c1, z0]
  rw [c1] at h1
  have h3 := compare_spec 0 ((min k 1 : Nat) : Int)
  have q1 : ((0 : Nat) : Int) = 0 := rfl
  repeat' first | refine pw_seq ?_ | refine pw_skip ?_ | refine pw_ret ?_ | refine pw_exit ?_ | refine pw_block ?_ | refine pw_region (fun _ => false) hmix ?_ | (refine rc (h1) rfl ?_ ?_; (· first | rfl | (simp (disch := omega) only [go_sem, simprocAttr, q1, m2]; done))) | (refine rc (h2) rfl ?_ ?_; (· first | rfl | (simp (disch := omega) only [go_sem, simprocAttr, q1, m2]; done))) | (refine rc (h3) rfl ?_ ?_; (· first | rfl | (simp (disch := omega) only [go_sem, simprocAttr, q1, m2]; done))) | (refine wpG_split rfl rfl (fun hc => ?_) (fun hc => ?_) <;> try simp only [hcL, reduceCtorEq] at hc) | (refine pw_cond _ rfl rfl (fun hc => ?_) (fun hc => ?_) <;> (try simp only [hcL, reduceCtorEq] at hc) <;> try (exfalso; omega)) | simp (maxSteps := 1000000) (disch := omega) only [go_sem, simprocAttr, q1, m2] | apply And.intro | omega | decide +kernel
  exact int_some rfl
 ·by_cases c2 : k = 0
  ·rw [if_pos (.inr c2), c2, z0]
   rw [c2] at h2
   have h3 := compare_spec ((min j 1 : Nat) : Int) 0
   have q1 : ((0 : Nat) : Int) = 0 := rfl
   have c1I : ¬ (j : Int) = 0 := by omega
   repeat' first | refine pw_seq ?_ | refine pw_skip ?_ | refine pw_ret ?_ | refine pw_exit ?_ | refine pw_block ?_ | refine pw_region (fun _ => false) hmix ?_ | (refine rc (h1) rfl ?_ ?_; (· first | rfl | (simp (disch := omega) only [go_sem, simprocAttr, q1, m1, c1I]; done))) | (refine rc (h2) rfl ?_ ?_; (· first | rfl | (simp (disch := omega) only [go_sem, simprocAttr, q1, m1, c1I]; done))) | (refine rc (h3) rfl ?_ ?_; (· first | rfl | (simp (disch := omega) only [go_sem, simprocAttr, q1, m1, c1I]; done))) | (refine wpG_split rfl rfl (fun hc => ?_) (fun hc => ?_) <;> try simp only [hcL, reduceCtorEq] at hc) | (refine pw_cond _ rfl rfl (fun hc => ?_) (fun hc => ?_) <;> (try simp only [hcL, reduceCtorEq] at hc) <;> try (exfalso; omega)) | simp (maxSteps := 1000000) (disch := omega) only [go_sem, simprocAttr, q1, m1, c1I] | apply And.intro | omega | decide +kernel
   exact int_some rfl
  ·rw [if_neg (by omega)]
   repeat' first | refine pw_seq ?_ | refine pw_skip ?_ | refine pw_ret ?_ | refine pw_exit ?_ | refine pw_block ?_ | refine pw_region (fun _ => false) hmix ?_ | (refine rc (h1) rfl ?_ ?_; (· first | rfl | (simp (disch := omega) only [go_sem, simprocAttr]; done))) | (refine rc (h2) rfl ?_ ?_; (· first | rfl | (simp (disch := omega) only [go_sem, simprocAttr]; done))) | (refine rc (h4) rfl ?_ ?_; (· first | rfl | (simp (disch := omega) only [go_sem, simprocAttr]; done))) | (refine wpG_split rfl rfl (fun hc => ?_) (fun hc => ?_) <;> try simp only [hcL, reduceCtorEq] at hc) | (refine pw_cond _ rfl rfl (fun hc => ?_) (fun hc => ?_) <;> (try simp only [hcL, reduceCtorEq] at hc) <;> try (exfalso; omega)) | simp (maxSteps := 1000000) (disch := omega) only [go_sem, simprocAttr] | apply And.intro | omega | decide +kernel
   exact int_some rfl
theorem bless_spec (u v : Int) (a b : List Int) : CallsTo Try.prog 48 [.ag [.int u, intsD a], .ag [.int v, intsD b]] (.int (cmpP a b)) := by
 have h1 := bCompare_spec a b
 refine callsTo_of Try.func48 rfl (by decide +kernel) (Nat.le_of_ble_eq_true rfl) ?_
 intro hat B X w0
 repeat' first | refine pw_seq ?_ | refine pw_skip ?_ | refine pw_ret ?_ | refine pw_exit ?_ | refine pw_block ?_ | refine pw_region (fun _ => false) hmix ?_ | (refine rc (h1) rfl ?_ ?_; (· first | rfl | (simp (disch := omega) only [go_sem, simprocAttr]; done))) | (refine wpG_split rfl rfl (fun hc => ?_) (fun hc => ?_) <;> try simp only [hcL, reduceCtorEq] at hc) | (refine pw_cond _ rfl rfl (fun hc => ?_) (fun hc => ?_) <;> (try simp only [hcL, reduceCtorEq] at hc) <;> try (exfalso; omega)) | simp (maxSteps := 1000000) (disch := omega) only [go_sem, simprocAttr] | apply And.intro | omega | decide +kernel
 exact int_some rfl
/-! The reference. -/
def plP (l : List Int) : List Int := if okPl l then l else []
theorem plP_sum (l : List Int) : (plP l).sum = sumP l := by rw [plP, sumP]; split <;> rfl
theorem plP_len (l : List Int) : (plP l).length = cntP l := by rw [plP, cntP]; split <;> rfl
set_option maxHeartbeats 1000000 in
theorem rplaces_spec (l : List Int) : CallsTo Try.prog 26 [intsD l] (intsD (plP l)) := by
 rw [plP, okPl_eq]
 refine callsTo_of Try.func26 rfl (by decide +kernel) (Nat.le_of_ble_eq_true rfl) ?_
 intro hat B X w0
 by_cases hl : l.length ≤ 4096
 ·repeat' first | refine pw_seq ?_ | refine pw_skip ?_ | refine pw_ret ?_ | refine pw_exit ?_ | refine pw_block ?_ | refine pw_region (fun _ => false) hmix ?_ | (refine wpG_split rfl rfl (fun hc => ?_) (fun hc => ?_) <;> try simp only [hcL, reduceCtorEq] at hc) | (refine pw_cond _ rfl rfl (fun hc => ?_) (fun hc => ?_) <;> (try simp only [hcL, reduceCtorEq] at hc) <;> try (exfalso; omega)) | simp (maxSteps := 1000000) (disch := omega) only [go_sem, simprocAttr] | apply And.intro | omega | decide +kernel
  refine pw_loopI (κ := Nat) (fun (k : Nat) => k ≤ l.length ∧ (∀ x, x ∈ l.take k → okP1 x = true)) (fun (k : Nat) => [(0, .d (intsD l)), (3, .int k)]) (fun (k : Nat) => []) (fun (k : Nat) => l.length - k) 0 ?_ ?_ ?_
  ·exact ⟨Nat.zero_le _, fun x hx => by rw [List.take_zero] at hx; cases hx⟩
  ·exact eL [] _ _ (by refine ⟨?_, ?_⟩ <;> (repeat' first | exact List.forall_mem_nil _ | refine List.forall_mem_cons.2 ⟨(by first | rfl | (simp (disch := omega) only [go_sem, simprocAttr, inL]; first | done | omega | (congr 1; done))), ?_⟩); done)
  ·rintro k ⟨hk, hinv⟩
   rcases Nat.lt_or_ge k l.length with hlt | hge
   ·obtain ⟨x, hx⟩ := get_some hlt
    by_cases c : 0 ≤ x ∧ x ≤ 1048576
    ·obtain ⟨c1, c2⟩ := c
     repeat' first | refine pw_seq ?_ | refine pw_skip ?_ | refine pw_ret ?_ | refine pw_exit ?_ | refine pw_block ?_ | refine pw_region (fun _ => false) hmix ?_ | (refine wpG_split rfl rfl (fun hc => ?_) (fun hc => ?_) <;> try simp only [hcL, reduceCtorEq] at hc) | (refine pw_cond _ rfl rfl (fun hc => ?_) (fun hc => ?_) <;> (try simp only [hcL, reduceCtorEq] at hc) <;> try (exfalso; omega)) | simp (maxSteps := 1000000) (disch := omega) only [go_sem, simprocAttr, hx] | apply And.intro | omega | decide +kernel
     refine ⟨k + 1, ?_, eL [] _ _ (by refine ⟨?_, ?_⟩ <;> (repeat' first | exact List.forall_mem_nil _ | refine List.forall_mem_cons.2 ⟨(by first | rfl | (simp (disch := omega) only [go_sem, simprocAttr, inL]; first | done | omega | (congr 1; done))), ?_⟩); done), ?_⟩
     ·refine ⟨by omega, fun y hy => ?_⟩
      rw [take_snoc hx] at hy
      rcases List.mem_append.1 hy with hy | hy
      ·exact hinv y hy
      ·rw [List.mem_singleton.1 hy, okP1, decide_eq_true ⟨c1, c2⟩]
     ·omega
    ·rw [all_at hx (by rw [okP1, decide_eq_false c]), Bool.and_false, if_neg (by decide)]
     repeat' first | refine pw_seq ?_ | refine pw_skip ?_ | refine pw_ret ?_ | refine pw_exit ?_ | refine pw_block ?_ | refine pw_region (fun _ => false) hmix ?_ | (refine wpG_split rfl rfl (fun hc => ?_) (fun hc => ?_) <;> try simp only [hcL, reduceCtorEq] at hc) | (refine pw_cond _ rfl rfl (fun hc => ?_) (fun hc => ?_) <;> (try simp only [hcL, reduceCtorEq] at hc) <;> try (exfalso; omega)) | simp (maxSteps := 1000000) (disch := omega) only [go_sem, simprocAttr, hx] | apply And.intro | omega | decide +kernel
     all_goals exact sl_some rfl
   ·have : k = l.length := by omega
    subst this
    rw [all_take hinv, decide_eq_true hl, Bool.true_and, if_pos rfl]
    repeat' first | refine pw_seq ?_ | refine pw_skip ?_ | refine pw_ret ?_ | refine pw_exit ?_ | refine pw_block ?_ | refine pw_region (fun _ => false) hmix ?_ | (refine wpG_split rfl rfl (fun hc => ?_) (fun hc => ?_) <;> try simp only [hcL, reduceCtorEq] at hc) | (refine pw_cond _ rfl rfl (fun hc => ?_) (fun hc => ?_) <;> (try simp only [hcL, reduceCtorEq] at hc) <;> try (exfalso; omega)) | simp (maxSteps := 1000000) (disch := omega) only [go_sem, simprocAttr] | apply And.intro | omega | decide +kernel
    exact sl_some rfl
 ·rw [decide_eq_false hl, Bool.false_and, if_neg (by decide)]
  have hl2 := at_len 0 hat rfl
  rw [List.length_map] at hl2
  repeat' first | refine pw_seq ?_ | refine pw_skip ?_ | refine pw_ret ?_ | refine pw_exit ?_ | refine pw_block ?_ | refine pw_region (fun _ => false) hmix ?_ | (refine wpG_split rfl rfl (fun hc => ?_) (fun hc => ?_) <;> try simp only [hcL, reduceCtorEq] at hc) | (refine pw_cond _ rfl rfl (fun hc => ?_) (fun hc => ?_) <;> (try simp only [hcL, reduceCtorEq] at hc) <;> try (exfalso; omega)) | simp (maxSteps := 1000000) (disch := omega) only [go_sem, simprocAttr] | apply And.intro | omega | decide +kernel
  exact sl_some rfl
theorem plP_ok (l : List Int) : (plP l).length ≤ 4096 ∧ ∀ x, x ∈ plP l → okP1 x = true := by
 rw [plP]
 split
 ·rename_i h
  rw [okPl_eq, Bool.and_eq_true, decide_eq_true_eq, List.all_eq_true] at h
  exact h
 ·exact ⟨Nat.zero_le _, fun x hx => by cases hx⟩
theorem rsum_spec (l : List Int) (h : l.length ≤ 4096) (hx : ∀ x, x ∈ l → okP1 x = true) : CallsTo Try.prog 27 [intsD l] (.int l.sum) := by
 refine callsTo_of Try.func27 rfl (by decide +kernel) (Nat.le_of_ble_eq_true rfl) ?_
 intro hat B X w0
 repeat' first | refine pw_seq ?_ | refine pw_skip ?_ | refine pw_ret ?_ | refine pw_exit ?_ | refine pw_block ?_ | refine pw_region (fun _ => false) hmix ?_ | (refine wpG_split rfl rfl (fun hc => ?_) (fun hc => ?_) <;> try simp only [hcL, reduceCtorEq] at hc) | (refine pw_cond _ rfl rfl (fun hc => ?_) (fun hc => ?_) <;> (try simp only [hcL, reduceCtorEq] at hc) <;> try (exfalso; omega)) | simp (maxSteps := 1000000) (disch := omega) only [go_sem, simprocAttr] | apply And.intro | omega | decide +kernel
 refine pw_loopI (κ := Nat) (fun (k : Nat) => k ≤ l.length) (fun (k : Nat) => [(0, .d (intsD l)), (3, .int (l.take k).sum), (4, .int k)]) (fun (k : Nat) => []) (fun (k : Nat) => l.length - k) 0 ?_ ?_ ?_
 ·exact Nat.zero_le _
 ·exact eL [] _ _ (by refine ⟨?_, ?_⟩ <;> (repeat' first | exact List.forall_mem_nil _ | refine List.forall_mem_cons.2 ⟨(by first | rfl | (simp (disch := omega) only [go_sem, simprocAttr, inL, List.take_zero, List.sum_nil]; first | done | omega | (congr 1; done))), ?_⟩); done)
 ·intro k hk
  have hb := bsum_bound (l := l.take k) (fun x h => hx x (List.mem_of_mem_take h))
  rw [List.length_take, Nat.min_eq_left hk] at hb
  rcases Nat.lt_or_ge k l.length with hlt | hge
  ·obtain ⟨x, hx1⟩ := get_some hlt
   have e1 := sum_snoc hx1
   have hx2 := hx x (List.mem_of_getElem? hx1)
   rw [okP1, decide_eq_true_eq] at hx2
   repeat' first | refine pw_seq ?_ | refine pw_skip ?_ | refine pw_ret ?_ | refine pw_exit ?_ | refine pw_block ?_ | refine pw_region (fun _ => false) hmix ?_ | (refine wpG_split rfl rfl (fun hc => ?_) (fun hc => ?_) <;> try simp only [hcL, reduceCtorEq] at hc) | (refine pw_cond _ rfl rfl (fun hc => ?_) (fun hc => ?_) <;> (try simp only [hcL, reduceCtorEq] at hc) <;> try (exfalso; omega)) | simp (maxSteps := 1000000) (disch := omega) only [go_sem, simprocAttr, hx1] | apply And.intro | omega | decide +kernel
   refine ⟨k + 1, ?_, eL [] _ _ (by refine ⟨?_, ?_⟩ <;> (repeat' first | exact List.forall_mem_nil _ | refine List.forall_mem_cons.2 ⟨(by first | rfl | (simp (disch := omega) only [go_sem, simprocAttr, inL, e1]; first | done | omega | (congr 1; done))), ?_⟩); done), ?_⟩
   ·omega
   ·omega
  ·have : k = l.length := by omega
   subst this
   repeat' first | refine pw_seq ?_ | refine pw_skip ?_ | refine pw_ret ?_ | refine pw_exit ?_ | refine pw_block ?_ | refine pw_region (fun _ => false) hmix ?_ | (refine wpG_split rfl rfl (fun hc => ?_) (fun hc => ?_) <;> try simp only [hcL, reduceCtorEq] at hc) | (refine pw_cond _ rfl rfl (fun hc => ?_) (fun hc => ?_) <;> (try simp only [hcL, reduceCtorEq] at hc) <;> try (exfalso; omega)) | simp (maxSteps := 1000000) (disch := omega) only [go_sem, simprocAttr] | apply And.intro | omega | decide +kernel
   exact int_some (by rw [List.take_length])
set_option maxHeartbeats 1000000 in
theorem rCompare_spec (a b : List Int) : CallsTo Try.prog 10 [intsD a, intsD b] (.int (cmpP a b)) := by
 have h1 := rplaces_spec a
 have h2 := rplaces_spec b
 have h3 := rsum_spec (plP a) (plP_ok a).1 (plP_ok a).2
 have h4 := rsum_spec (plP b) (plP_ok b).1 (plP_ok b).2
 have p1 := prodP_le a b
 have p2 := prodP_le b a
 rw [cmpP]
 rw [plP_sum] at h3 h4
 have l1 := plP_len a
 have l2 := plP_len b
 have l3 := cntP_le a
 have l4 := cntP_le b
 generalize plP a = A at *
 generalize plP b = C at *
 refine callsTo_of Try.func10 rfl (by decide +kernel) (Nat.le_of_ble_eq_true rfl) ?_
 intro hat B X w0
 by_cases c1 : A.length = 0
 ·by_cases c2 : C.length = 0
  ·rw [if_pos (.inl (by omega)), show cntP a = 0 by omega, show cntP b = 0 by omega]
   have c1I : (A.length : Int) = 0 := by omega
   have c2I : (C.length : Int) = 0 := by omega
   repeat' first | refine pw_seq ?_ | refine pw_skip ?_ | refine pw_ret ?_ | refine pw_exit ?_ | refine pw_block ?_ | refine pw_region (fun _ => false) hmix ?_ | (refine rc (h1) rfl ?_ ?_; (· first | rfl | (simp (disch := omega) only [go_sem, simprocAttr, c1I, c2I]; done))) | (refine rc (h2) rfl ?_ ?_; (· first | rfl | (simp (disch := omega) only [go_sem, simprocAttr, c1I, c2I]; done))) | (refine wpG_split rfl rfl (fun hc => ?_) (fun hc => ?_) <;> try simp only [hcL, reduceCtorEq] at hc) | (refine pw_cond _ rfl rfl (fun hc => ?_) (fun hc => ?_) <;> (try simp only [hcL, reduceCtorEq] at hc) <;> try (exfalso; omega)) | simp (maxSteps := 1000000) (disch := omega) only [go_sem, simprocAttr, c1I, c2I] | apply And.intro | omega | decide +kernel
   exact int_some rfl
  ·rw [if_pos (.inl (by omega)), show cntP a = 0 by omega, show min (cntP b) 1 = 1 by omega]
   have c1I : (A.length : Int) = 0 := by omega
   have c2I : ¬ (C.length : Int) = 0 := by omega
   repeat' first | refine pw_seq ?_ | refine pw_skip ?_ | refine pw_ret ?_ | refine pw_exit ?_ | refine pw_block ?_ | refine pw_region (fun _ => false) hmix ?_ | (refine rc (h1) rfl ?_ ?_; (· first | rfl | (simp (disch := omega) only [go_sem, simprocAttr, c1I, c2I]; done))) | (refine rc (h2) rfl ?_ ?_; (· first | rfl | (simp (disch := omega) only [go_sem, simprocAttr, c1I, c2I]; done))) | (refine wpG_split rfl rfl (fun hc => ?_) (fun hc => ?_) <;> try simp only [hcL, reduceCtorEq] at hc) | (refine pw_cond _ rfl rfl (fun hc => ?_) (fun hc => ?_) <;> (try simp only [hcL, reduceCtorEq] at hc) <;> try (exfalso; omega)) | simp (maxSteps := 1000000) (disch := omega) only [go_sem, simprocAttr, c1I, c2I] | apply And.intro | omega | decide +kernel
   exact int_some rfl
 ·have c1I : ¬ (A.length : Int) = 0 := by omega
  by_cases c2 : C.length = 0
  ·rw [if_pos (.inr (by omega)), show cntP b = 0 by omega, show min (cntP a) 1 = 1 by omega]
   have c2I : (C.length : Int) = 0 := by omega
   repeat' first | refine pw_seq ?_ | refine pw_skip ?_ | refine pw_ret ?_ | refine pw_exit ?_ | refine pw_block ?_ | refine pw_region (fun _ => false) hmix ?_ | (refine rc (h1) rfl ?_ ?_; (· first | rfl | (simp (disch := omega) only [go_sem, simprocAttr, c1I, c2I]; done))) | (refine rc (h2) rfl ?_ ?_; (· first | rfl | (simp (disch := omega) only [go_sem, simprocAttr, c1I, c2I]; done))) | (refine wpG_split rfl rfl (fun hc => ?_) (fun hc => ?_) <;> try simp only [hcL, reduceCtorEq] at hc) | (refine pw_cond _ rfl rfl (fun hc => ?_) (fun hc => ?_) <;> (try simp only [hcL, reduceCtorEq] at hc) <;> try (exfalso; omega)) | simp (maxSteps := 1000000) (disch := omega) only [go_sem, simprocAttr, c1I, c2I] | apply And.intro | omega | decide +kernel
   exact int_some rfl
  ·have c2I : ¬ (C.length : Int) = 0 := by omega
   rw [if_neg (by omega)]
   rw [← l2] at p1
   rw [← l1] at p2
   rw [← l1, ← l2]
   rw [sg]
   by_cases c3 : sumP a * (C.length : Int) < sumP b * (A.length : Int)
   ·rw [if_pos c3]
    repeat' first | refine pw_seq ?_ | refine pw_skip ?_ | refine pw_ret ?_ | refine pw_exit ?_ | refine pw_block ?_ | refine pw_region (fun _ => false) hmix ?_ | (refine rc (h1) rfl ?_ ?_; (· first | rfl | (simp (disch := omega) only [go_sem, simprocAttr, c1I, c2I, c3]; done))) | (refine rc (h2) rfl ?_ ?_; (· first | rfl | (simp (disch := omega) only [go_sem, simprocAttr, c1I, c2I, c3]; done))) | (refine rc (h3) rfl ?_ ?_; (· first | rfl | (simp (disch := omega) only [go_sem, simprocAttr, c1I, c2I, c3]; done))) | (refine rc (h4) rfl ?_ ?_; (· first | rfl | (simp (disch := omega) only [go_sem, simprocAttr, c1I, c2I, c3]; done))) | (refine wpG_split rfl rfl (fun hc => ?_) (fun hc => ?_) <;> try simp only [hcL, reduceCtorEq] at hc) | (refine pw_cond _ rfl rfl (fun hc => ?_) (fun hc => ?_) <;> (try simp only [hcL, reduceCtorEq] at hc) <;> try (exfalso; omega)) | simp (maxSteps := 1000000) (disch := omega) only [go_sem, simprocAttr, c1I, c2I, c3] | apply And.intro | omega | decide +kernel
    exact int_some rfl
   ·rw [if_neg c3]
    by_cases c4 : sumP b * (A.length : Int) < sumP a * (C.length : Int)
    ·rw [if_pos c4]
     repeat' first | refine pw_seq ?_ | refine pw_skip ?_ | refine pw_ret ?_ | refine pw_exit ?_ | refine pw_block ?_ | refine pw_region (fun _ => false) hmix ?_ | (refine rc (h1) rfl ?_ ?_; (· first | rfl | (simp (disch := omega) only [go_sem, simprocAttr, c1I, c2I, c3, c4]; done))) | (refine rc (h2) rfl ?_ ?_; (· first | rfl | (simp (disch := omega) only [go_sem, simprocAttr, c1I, c2I, c3, c4]; done))) | (refine rc (h3) rfl ?_ ?_; (· first | rfl | (simp (disch := omega) only [go_sem, simprocAttr, c1I, c2I, c3, c4]; done))) | (refine rc (h4) rfl ?_ ?_; (· first | rfl | (simp (disch := omega) only [go_sem, simprocAttr, c1I, c2I, c3, c4]; done))) | (refine wpG_split rfl rfl (fun hc => ?_) (fun hc => ?_) <;> try simp only [hcL, reduceCtorEq] at hc) | (refine pw_cond _ rfl rfl (fun hc => ?_) (fun hc => ?_) <;> (try simp only [hcL, reduceCtorEq] at hc) <;> try (exfalso; omega)) | simp (maxSteps := 1000000) (disch := omega) only [go_sem, simprocAttr, c1I, c2I, c3, c4] | apply And.intro | omega | decide +kernel
     exact int_some rfl
    ·rw [if_neg c4]
     repeat' first | refine pw_seq ?_ | refine pw_skip ?_ | refine pw_ret ?_ | refine pw_exit ?_ | refine pw_block ?_ | refine pw_region (fun _ => false) hmix ?_ | (refine rc (h1) rfl ?_ ?_; (· first | rfl | (simp (disch := omega) only [go_sem, simprocAttr, c1I, c2I, c3, c4]; done))) | (refine rc (h2) rfl ?_ ?_; (· first | rfl | (simp (disch := omega) only [go_sem, simprocAttr, c1I, c2I, c3, c4]; done))) | (refine rc (h3) rfl ?_ ?_; (· first | rfl | (simp (disch := omega) only [go_sem, simprocAttr, c1I, c2I, c3, c4]; done))) | (refine rc (h4) rfl ?_ ?_; (· first | rfl | (simp (disch := omega) only [go_sem, simprocAttr, c1I, c2I, c3, c4]; done))) | (refine wpG_split rfl rfl (fun hc => ?_) (fun hc => ?_) <;> try simp only [hcL, reduceCtorEq] at hc) | (refine pw_cond _ rfl rfl (fun hc => ?_) (fun hc => ?_) <;> (try simp only [hcL, reduceCtorEq] at hc) <;> try (exfalso; omega)) | simp (maxSteps := 1000000) (disch := omega) only [go_sem, simprocAttr, c1I, c2I, c3, c4] | apply And.intro | omega | decide +kernel
     exact int_some rfl
end Go.Proofs.Ytldbcbclhpcofaa
namespace Go.Proofs.Ytldbcbclhpcofaa
open Go Go.PS Go.Proofs
open Go.Stb
set_option maxRecDepth 100000
attribute [local irreducible] wpRun wpG CallsTo CallsM

theorem valid_range {a : Lv} (h : validF a = true) {v : Int} (hv : v ∈ a.2.1.flatten) : 0 ≤ v ∧ v < tot a.2.1 := by
 obtain ⟨_, _, hr⟩ := valid_built h
 obtain ⟨_, _, hg, _⟩ := ranks_ok hr
 exact (good_iff.1 hg).1 v hv
theorem arc_facts {a : Lv} (h : validF a = true) {x : Arc} (hx : x ∈ a.2.2.1) : x.1 ≠ x.2 ∧ (0 ≤ x.1 ∧ x.1 < tot a.2.1) ∧ (0 ≤ x.2 ∧ x.2 < tot a.2.1) := by
 obtain ⟨k, hk⟩ := List.getElem?_of_mem hx
 obtain ⟨r, p, q, h1, h2⟩ := valid_joins h hk
 refine ⟨fun e => ?_, valid_range h h1.mem, valid_range h h2.mem⟩
 rw [← e] at h2
 have := Lies.layer (valid_nodup h) h1 h2
 omega
theorem plcF_snoc {z : List Int} {ar : List Arc} {v : Int} {k : Nat} {x : Arc} (h : ar[k]? = some x) : plcF z (ar.take (k + 1)) v = plcF z (ar.take k) v ++ plcA z v x := by
 rw [plcF, plcF, take_snoc h, List.flatMap_append, List.flatMap_cons, List.flatMap_nil, List.append_nil]
set_option maxHeartbeats 4000000 in
theorem bplaces_spec (a : Lv) (v : Int) (z pl : List Int) (har : a.2.2.1.length ≤ 1000) (hpl : ∀ u : Int, 0 ≤ u → u < pl.length → pl[u.toNat]? = some (placeF z u))
  (hx : ∀ x, x ∈ a.2.2.1 → x.1 ≠ x.2 ∧ (0 ≤ x.1 ∧ x.1 < pl.length) ∧ (0 ≤ x.2 ∧ x.2 < pl.length)) :
  CallsTo Try.prog 46 [lvD a, .int v, intsD pl] (intsD (plcF z a.2.2.1 v)) := by
 obtain ⟨n, ls, ar, cs⟩ := a
 dsimp only at har hx ⊢
 refine callsTo_of Try.func46 rfl (by decide +kernel) (Nat.le_of_ble_eq_true rfl) ?_
 intro hat B X w0
 repeat' first | refine pw_seq ?_ | refine pw_skip ?_ | refine pw_ret ?_ | refine pw_exit ?_ | refine pw_block ?_ | refine pw_region (fun _ => false) hmix ?_ | (refine wpG_split rfl rfl (fun hc => ?_) (fun hc => ?_) <;> try simp only [hcL, reduceCtorEq] at hc) | (refine pw_cond _ rfl rfl (fun hc => ?_) (fun hc => ?_) <;> (try simp only [hcL, reduceCtorEq] at hc) <;> try (exfalso; omega)) | simp (maxSteps := 1000000) (disch := omega) only [go_sem, simprocAttr] | apply And.intro | omega | decide +kernel
 refine pw_ent _ (ent_nil 7 901 1 rfl rfl) ?_
 refine pw_loopI (κ := Nat) (fun (k : Nat) => k ≤ ar.length) (fun (k : Nat) => [(1, .int v), (2, .d (intsD pl)), (7, .ref 901 1 0 (plcF z (ar.take k) v).length (plcF z (ar.take k) v).length), (11, .d (arcsD ar)), (12, .int ar.length), (13, .int k)]) (fun (k : Nat) => [(901, .row 1 ((plcF z (ar.take k) v).map D.int))]) (fun (k : Nat) => ar.length - k) 0 ?_ ?_ ?_
 ·exact Nat.zero_le _
 ·exact eL [] _ _ (by refine ⟨?_, ?_⟩ <;> (repeat' first | exact List.forall_mem_nil _ | refine List.forall_mem_cons.2 ⟨(by first | rfl | (simp (disch := omega) only [go_sem, simprocAttr, inL, List.take_zero, plcF, List.flatMap_nil, List.map_nil, List.length_nil]; first | done | omega | (congr 1; done))), ?_⟩); done)
 ·intro k hk
  have hRl := plcF_len z v (ar.take k)
  rw [List.length_take, Nat.min_eq_left hk] at hRl
  rcases Nat.lt_or_ge k ar.length with hlt | hge
  ·obtain ⟨x, hxk⟩ := get_some hlt
   obtain ⟨hne, ⟨b1, b2⟩, ⟨b3, b4⟩⟩ := hx x (List.mem_of_getElem? hxk)
   have g1 := hpl x.1 b1 b2
   have g2 := hpl x.2 b3 b4
   have e1 := plcF_snoc (z := z) (v := v) hxk
   rw [plcA] at e1
   generalize plcF z (ar.take k) v = R at *
   generalize placeF z x.1 = q1 at *
   generalize placeF z x.2 = q2 at *
   obtain ⟨s, t⟩ := x
   dsimp only at *
   have htl : (R.map D.int).take R.length = R.map D.int := take_map_len _ _
   have i1 : s.toNat < pl.length := by omega
   have i2 : t.toNat < pl.length := by omega
   by_cases c1 : s = v ∧ 0 ≤ q2
   ·obtain ⟨c1, c2⟩ := c1
    have c3 : ¬ t = v := fun e => hne (c1.trans e.symm)
    rw [if_pos ⟨c1, c2⟩, if_neg (fun h => c3 h.1), List.append_nil] at e1
    repeat' first | refine pw_seq ?_ | refine pw_skip ?_ | refine pw_ret ?_ | refine pw_exit ?_ | refine pw_block ?_ | refine pw_region (fun _ => false) hmix ?_ | (refine wpG_split rfl rfl (fun hc => ?_) (fun hc => ?_) <;> try simp only [hcL, reduceCtorEq] at hc) | (refine pw_cond _ rfl rfl (fun hc => ?_) (fun hc => ?_) <;> (try simp only [hcL, reduceCtorEq] at hc) <;> try (exfalso; omega)) | simp (maxSteps := 1000000) (disch := omega) only [go_sem, simprocAttr, hxk, g1, g2, i1, i2, b1, b2, b3, b4, c1, c2, c3, htl, roomy] | exact one_int _ | apply And.intro | omega | decide +kernel
    refine ⟨k + 1, ?_, eL [(901, 36)] _ _ (by refine ⟨?_, ?_⟩ <;> (repeat' first | exact List.forall_mem_nil _ | refine List.forall_mem_cons.2 ⟨(by first | rfl | (simp (disch := omega) only [go_sem, simprocAttr, inL, e1, List.map_append, List.map_cons, List.map_nil, List.length_append, List.length_cons, List.length_nil, Nat.zero_add, htl]; first | done | omega | (congr 1; done))), ?_⟩); done), ?_⟩
    ·omega
    ·omega
   ·by_cases c4 : t = v ∧ 0 ≤ q1
    ·obtain ⟨c4, c5⟩ := c4
     have c3 : ¬ s = v := fun e => hne (e.trans c4.symm)
     rw [if_neg c1, if_pos ⟨c4, c5⟩, List.nil_append] at e1
     repeat' first | refine pw_seq ?_ | refine pw_skip ?_ | refine pw_ret ?_ | refine pw_exit ?_ | refine pw_block ?_ | refine pw_region (fun _ => false) hmix ?_ | (refine wpG_split rfl rfl (fun hc => ?_) (fun hc => ?_) <;> try simp only [hcL, reduceCtorEq] at hc) | (refine pw_cond _ rfl rfl (fun hc => ?_) (fun hc => ?_) <;> (try simp only [hcL, reduceCtorEq] at hc) <;> try (exfalso; omega)) | simp (maxSteps := 1000000) (disch := omega) only [go_sem, simprocAttr, hxk, g1, g2, i1, i2, b1, b2, b3, b4, c3, c4, c5, htl, roomy] | exact one_int _ | apply And.intro | omega | decide +kernel
     refine ⟨k + 1, ?_, eL [(901, 56)] _ _ (by refine ⟨?_, ?_⟩ <;> (repeat' first | exact List.forall_mem_nil _ | refine List.forall_mem_cons.2 ⟨(by first | rfl | (simp (disch := omega) only [go_sem, simprocAttr, inL, e1, List.map_append, List.map_cons, List.map_nil, List.length_append, List.length_cons, List.length_nil, Nat.zero_add, htl]; first | done | omega | (congr 1; done))), ?_⟩); done), ?_⟩
     ·omega
     ·omega
    ·rw [if_neg c1, if_neg c4, List.nil_append, List.append_nil] at e1
     repeat' first | refine pw_seq ?_ | refine pw_skip ?_ | refine pw_ret ?_ | refine pw_exit ?_ | refine pw_block ?_ | refine pw_region (fun _ => false) hmix ?_ | (refine wpG_split rfl rfl (fun hc => ?_) (fun hc => ?_) <;> try simp only [hcL, reduceCtorEq] at hc) | (refine pw_cond _ rfl rfl (fun hc => ?_) (fun hc => ?_) <;> (try simp only [hcL, reduceCtorEq] at hc) <;> try (exfalso; omega)) | simp (maxSteps := 1000000) (disch := omega) only [go_sem, simprocAttr, hxk, g1, g2, i1, i2, b1, b2, b3, b4, htl, roomy] | exact one_int _ | apply And.intro | omega | decide +kernel
     all_goals
      refine ⟨k + 1, ?_, eL [] _ _ (by refine ⟨?_, ?_⟩ <;> (repeat' first | exact List.forall_mem_nil _ | refine List.forall_mem_cons.2 ⟨(by first | rfl | (simp (disch := omega) only [go_sem, simprocAttr, inL, e1]; first | done | omega | (congr 1; done))), ?_⟩); done), ?_⟩
      ·omega
      ·omega
  ·have : k = ar.length := by omega
   subst this
   rw [List.take_length] at hRl ⊢
   repeat' first | refine pw_seq ?_ | refine pw_skip ?_ | refine pw_ret ?_ | refine pw_exit ?_ | refine pw_block ?_ | refine pw_region (fun _ => false) hmix ?_ | (refine wpG_split rfl rfl (fun hc => ?_) (fun hc => ?_) <;> try simp only [hcL, reduceCtorEq] at hc) | (refine pw_cond _ rfl rfl (fun hc => ?_) (fun hc => ?_) <;> (try simp only [hcL, reduceCtorEq] at hc) <;> try (exfalso; omega)) | simp (maxSteps := 1000000) (disch := omega) only [go_sem, simprocAttr] | apply And.intro | omega | decide +kernel
   exact ret_ref (o := 901) rfl rfl (by simp) (take_map_len _ _)
theorem nearA_len (v u : Int) (k : Nat) (x : Arc) : (nearA v u k x).length ≤ 1 := by rw [nearA]; split <;> simp
theorem nearL_len (v u : Int) (k : Nat) : ∀ ar : List Arc, (ar.flatMap (nearA v u k)).length ≤ ar.length
 | [] => by simp
 | x :: ar => by
  have := nearL_len v u k ar
  have := nearA_len v u k x
  rw [List.flatMap_cons, List.length_append, List.length_cons]; omega
def nearN (y : List Int) (ar : List Arc) (v : Int) (n : Nat) : List Int := (List.range n).flatMap fun k : Nat => ar.flatMap (nearA v (at0 y k) k)
theorem nearN_succ (y : List Int) (ar : List Arc) (v : Int) (n : Nat) : nearN y ar v (n + 1) = nearN y ar v n ++ ar.flatMap (nearA v (at0 y n) n) := by
 rw [nearN, List.range_succ, List.flatMap_append, List.flatMap_cons, List.flatMap_nil, List.append_nil]; rfl
theorem nearN_len (y : List Int) (ar : List Arc) (v : Int) : ∀ n, (nearN y ar v n).length ≤ n * ar.length
 | 0 => by simp [nearN]
 | n + 1 => by
  have := nearN_len y ar v n
  have := nearL_len v (at0 y n) n ar
  rw [nearN_succ, List.length_append, Nat.add_mul]; omega
set_option maxHeartbeats 4000000 in
theorem rnear_spec (a : Lv) (v : Int) (f : Nat) (z : List Int) (hz : a.2.1[f]? = some z) (hzl : z.length ≤ 1000) (har : a.2.2.1.length ≤ 1000) (hfl : a.2.1.length ≤ 1000) :
  CallsTo Try.prog 50 [lvD a, .int v, .int f] (intsD (nearF z a.2.2.1 v)) := by
 have hfi := (List.getElem?_eq_some_iff.1 hz).1
 show CallsTo Try.prog 50 [lvD a, .int v, .int f] (intsD (nearN z a.2.2.1 v z.length))
 have hNl := nearN_len z a.2.2.1 v
 have hNs := nearN_succ z a.2.2.1 v
 have hN0 : nearN z a.2.2.1 v 0 = [] := rfl
 generalize nearN z a.2.2.1 v = NN at *
 obtain ⟨n, ls, ar, cs⟩ := a
 dsimp only at *
 refine callsTo_of Try.func50 rfl (by decide +kernel) (Nat.le_of_ble_eq_true rfl) ?_
 intro hat B X w0
 repeat' first | refine pw_seq ?_ | refine pw_skip ?_ | refine pw_ret ?_ | refine pw_exit ?_ | refine pw_block ?_ | refine pw_region (fun _ => false) hmix ?_ | (refine wpG_split rfl rfl (fun hc => ?_) (fun hc => ?_) <;> try simp only [hcL, reduceCtorEq] at hc) | (refine pw_cond _ rfl rfl (fun hc => ?_) (fun hc => ?_) <;> (try simp only [hcL, reduceCtorEq] at hc) <;> try (exfalso; omega)) | simp (maxSteps := 1000000) (disch := omega) only [go_sem, simprocAttr] | apply And.intro | omega | decide +kernel
 refine pw_ent _ (ent_nil 7 901 1 rfl rfl) ?_
 refine pw_loopI (κ := Nat) (fun (k : Nat) => k ≤ z.length) (fun (k : Nat) => [(1, .int v), (2, .int f), (3, .ptr 3 0 0 0), (7, .ref 901 1 0 (NN k).length (NN k).length), (8, .int k)]) (fun (k : Nat) => [(3, .cells [.int n, .d (listsD ls), .d (arcsD ar), .d (listsD cs)]), (901, .row 1 ((NN k).map D.int))]) (fun (k : Nat) => z.length - k) 0 ?_ ?_ ?_
 ·exact Nat.zero_le _
 ·exact eL [] _ _ (by refine ⟨?_, ?_⟩ <;> (repeat' first | exact List.forall_mem_nil _ | refine List.forall_mem_cons.2 ⟨(by first | rfl | (simp (disch := omega) only [go_sem, simprocAttr, inL, hN0, List.map_nil, List.length_nil]; first | done | omega | (congr 1; done))), ?_⟩); done)
 ·intro k hk
  have hRl := hNl k
  have hb1 : k * ar.length ≤ 1000 * 1000 := Nat.mul_le_mul (by omega) har
  rcases Nat.lt_or_ge k z.length with hlt | hge
  ·obtain ⟨u, hu⟩ := get_some hlt
   have hux : at0 z k = u := by rw [at0, Int.toNat_natCast, hu]; rfl
   have e1 := hNs k
   rw [hux] at e1
   generalize hR : NN k = R at *
   repeat' first | refine pw_seq ?_ | refine pw_skip ?_ | refine pw_ret ?_ | refine pw_exit ?_ | refine pw_block ?_ | refine pw_region (fun _ => false) hmix ?_ | (refine wpG_split rfl rfl (fun hc => ?_) (fun hc => ?_) <;> try simp only [hcL, reduceCtorEq] at hc) | (refine pw_cond _ rfl rfl (fun hc => ?_) (fun hc => ?_) <;> (try simp only [hcL, reduceCtorEq] at hc) <;> try (exfalso; omega)) | simp (maxSteps := 1000000) (disch := omega) only [go_sem, simprocAttr, hz, hu] | apply And.intro | omega | decide +kernel
   refine pw_loopI (κ := Nat) (fun (j : Nat) => j ≤ ar.length) (fun (j : Nat) => [(1, .int v), (2, .int f), (3, .ptr 3 0 0 0), (7, .ref 901 1 0 (R ++ (ar.take j).flatMap (nearA v u k)).length (R ++ (ar.take j).flatMap (nearA v u k)).length), (8, .int k), (9, .int u), (10, .int j)]) (fun (j : Nat) => [(3, .cells [.int n, .d (listsD ls), .d (arcsD ar), .d (listsD cs)]), (901, .row 1 ((R ++ (ar.take j).flatMap (nearA v u k)).map D.int))]) (fun (j : Nat) => ar.length - j) 0 ?_ ?_ ?_
   ·exact Nat.zero_le _
   ·exact eL [] _ _ (by refine ⟨?_, ?_⟩ <;> (repeat' first | exact List.forall_mem_nil _ | refine List.forall_mem_cons.2 ⟨(by first | rfl | (simp (disch := omega) only [go_sem, simprocAttr, inL, List.take_zero, List.flatMap_nil, List.append_nil, hR]; first | done | omega | (congr 1; done))), ?_⟩); done)
   ·intro j hj
    have hjl := nearL_len v u k (ar.take j)
    rw [List.length_take, Nat.min_eq_left hj] at hjl
    rcases Nat.lt_or_ge j ar.length with hlj | hgj
    ·obtain ⟨x, hx⟩ := get_some hlj
     have e2 : R ++ (ar.take (j + 1)).flatMap (nearA v u k) = (R ++ (ar.take j).flatMap (nearA v u k)) ++ nearA v u k x := by
      rw [take_snoc hx, List.flatMap_append, List.flatMap_cons, List.flatMap_nil, List.append_nil, List.append_assoc]
     rw [nearA] at e2
     have hSl : (R ++ (ar.take j).flatMap (nearA v u k)).length ≤ 2000000 := by rw [List.length_append]; omega
     generalize R ++ (ar.take j).flatMap (nearA v u k) = S at *
     have htl : (S.map D.int).take S.length = S.map D.int := take_map_len _ _
     obtain ⟨s, t⟩ := x
     dsimp only at *
     by_cases c : (s = u ∧ t = v) ∨ (s = v ∧ t = u)
     ·rw [if_pos c] at e2
      repeat' first | refine pw_seq ?_ | refine pw_skip ?_ | refine pw_ret ?_ | refine pw_exit ?_ | refine pw_block ?_ | refine pw_region (fun _ => false) hmix ?_ | (refine wpG_split rfl rfl (fun hc => ?_) (fun hc => ?_) <;> try simp only [hcL, reduceCtorEq] at hc) | (refine pw_cond _ rfl rfl (fun hc => ?_) (fun hc => ?_) <;> (try simp only [hcL, reduceCtorEq] at hc) <;> try (exfalso; omega)) | simp (maxSteps := 1000000) (disch := omega) only [go_sem, simprocAttr, hx, htl, roomy, List.append_eq] | exact one_int _ | apply And.intro | omega | decide +kernel
      all_goals
       refine ⟨j + 1, ?_, eL [(901, 77)] _ _ (by refine ⟨?_, ?_⟩ <;> (repeat' first | exact List.forall_mem_nil _ | refine List.forall_mem_cons.2 ⟨(by first | rfl | (simp (disch := omega) only [go_sem, simprocAttr, inL, e2, List.map_append, List.map_cons, List.map_nil, List.length_append, List.length_cons, List.length_nil, Nat.zero_add, htl]; first | done | omega | (congr 1; done))), ?_⟩); done), ?_⟩
       ·omega
       ·omega
     ·rw [if_neg c, List.append_nil] at e2
      have c1 : ¬ (s = u ∧ t = v) := fun h => c (.inl h)
      have c2 : ¬ (s = v ∧ t = u) := fun h => c (.inr h)
      repeat' first | refine pw_seq ?_ | refine pw_skip ?_ | refine pw_ret ?_ | refine pw_exit ?_ | refine pw_block ?_ | refine pw_region (fun _ => false) hmix ?_ | (refine wpG_split rfl rfl (fun hc => ?_) (fun hc => ?_) <;> try simp only [hcL, reduceCtorEq] at hc) | (refine pw_cond _ rfl rfl (fun hc => ?_) (fun hc => ?_) <;> (try simp only [hcL, reduceCtorEq] at hc) <;> try (exfalso; omega)) | simp (maxSteps := 1000000) (disch := omega) only [go_sem, simprocAttr, hx, htl, roomy, List.append_eq] | exact one_int _ | apply And.intro | omega | decide +kernel
      all_goals
       refine ⟨j + 1, ?_, eL [] _ _ (by refine ⟨?_, ?_⟩ <;> (repeat' first | exact List.forall_mem_nil _ | refine List.forall_mem_cons.2 ⟨(by first | rfl | (simp (disch := omega) only [go_sem, simprocAttr, inL, e2]; first | done | omega | (congr 1; done))), ?_⟩); done), ?_⟩
       ·omega
       ·omega
    ·have : j = ar.length := by omega
     subst this
     rw [List.take_length, ← e1]
     repeat' first | refine pw_seq ?_ | refine pw_skip ?_ | refine pw_ret ?_ | refine pw_exit ?_ | refine pw_block ?_ | refine pw_region (fun _ => false) hmix ?_ | (refine wpG_split rfl rfl (fun hc => ?_) (fun hc => ?_) <;> try simp only [hcL, reduceCtorEq] at hc) | (refine pw_cond _ rfl rfl (fun hc => ?_) (fun hc => ?_) <;> (try simp only [hcL, reduceCtorEq] at hc) <;> try (exfalso; omega)) | simp (maxSteps := 1000000) (disch := omega) only [go_sem, simprocAttr] | apply And.intro | omega | decide +kernel
     refine ⟨k + 1, ?_, eL [] _ _ (by refine ⟨?_, ?_⟩ <;> (repeat' first | exact List.forall_mem_nil _ | refine List.forall_mem_cons.2 ⟨(by first | rfl | (simp (disch := omega) only [go_sem, simprocAttr, inL]; first | done | omega | (congr 1; done))), ?_⟩); done), ?_⟩
     ·omega
     ·omega
  ·have : k = z.length := by omega
   subst this
   repeat' first | refine pw_seq ?_ | refine pw_skip ?_ | refine pw_ret ?_ | refine pw_exit ?_ | refine pw_block ?_ | refine pw_region (fun _ => false) hmix ?_ | (refine wpG_split rfl rfl (fun hc => ?_) (fun hc => ?_) <;> try simp only [hcL, reduceCtorEq] at hc) | (refine pw_cond _ rfl rfl (fun hc => ?_) (fun hc => ?_) <;> (try simp only [hcL, reduceCtorEq] at hc) <;> try (exfalso; omega)) | simp (maxSteps := 1000000) (disch := omega) only [go_sem, simprocAttr, hz] | apply And.intro | omega | decide +kernel
   exact ret_ref (o := 901) rfl rfl (by simp) (take_map_len _ _)
end Go.Proofs.Ytldbcbclhpcofaa
