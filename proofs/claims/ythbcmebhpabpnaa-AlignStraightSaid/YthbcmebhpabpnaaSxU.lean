/- Walks in a net of steps; the search for longest ways: it ends, and its ways are the longest. -/
import Derived.Test.YthbcmebhpabpnaaSxL
set_option linter.unusedSimpArgs false
set_option linter.unusedVariables false
namespace Go.Proofs.Ythbcmebhpabpnaa.Sx
open Go Go.PS Go.Proofs
section partU

theorem nodup_lt : ∀ (n : Nat) (l : List Nat), l.Nodup → (∀ x ∈ l, x < n) → l.length ≤ n := by
 intro n
 induction n with
 | zero => intro l _ h; cases l with
  | nil => exact Nat.le_refl _
  | cons a l => have := h a (by simp); omega
 | succ n ih =>
  intro l hl h
  by_cases hn : n ∈ l
  ·have h1 := ih (l.erase n) (hl.erase n) (fun x hx => by
    have h2 := (hl.mem_erase_iff).1 hx
    have := h x h2.2
    omega)
   rw [List.length_erase_of_mem hn] at h1
   omega
  ·have := ih l hl (fun x hx => by
    have := h x hx
    have : x ≠ n := fun he => hn (he ▸ hx)
    omega)
   omega
theorem nodup_map {g : Nat → Nat} : ∀ (k : Nat), (∀ i j, i < j → j < k → g i ≠ g j) → ((List.range k).map g).Nodup := by
 intro k
 induction k with
 | zero => intro _; simp
 | succ k ih =>
  intro h
  rw [List.range_succ, List.map_append, List.nodup_append]
  refine ⟨ih fun i j hij hj => h i j hij (by omega), by simp, fun a ha b hb => ?_⟩
  obtain ⟨i, hi, rfl⟩ := List.mem_map.1 ha
  simp at hb
  rw [hb]
  exact h i k (List.mem_range.1 hi) (by omega)
theorem inj_le {g : Nat → Nat} {k n : Nat} (h : ∀ i, i < k → g i < n) (inj : ∀ i j, i < j → j < k → g i ≠ g j) : k ≤ n := by
 have := nodup_lt n _ (nodup_map k inj) (fun x hx => by
  obtain ⟨i, hi, rfl⟩ := List.mem_map.1 hx
  exact h i (List.mem_range.1 hi))
 simpa using this

inductive Wk (ST : Nat → List Stp) (S : Nat → Prop) : Nat → Nat → Int → Prop
 | start (v : Nat) (h : S v) : Wk ST S 0 v 0
 | step (k v : Nat) (d : Int) (s : Stp) (h : Wk ST S k v d) (hs : s ∈ ST v) : Wk ST S (k + 1) s.1.toNat (d + s.2.1)
def Pot (ST : Nat → List Stp) (p : Nat → Int) : Prop := ∀ v s, s ∈ ST v → p v + s.2.1 ≤ p s.1.toNat
def GoodN (n : Nat) (ST : Nat → List Stp) : Prop := ∀ v s, s ∈ ST v → v < n ∧ 0 ≤ s.1 ∧ s.1 < (n : Int) ∧ s.1 ≠ v ∧ -16777216 ≤ s.2.1 ∧ s.2.1 ≤ 16777216
variable {ST : Nat → List Stp} {S : Nat → Prop} {n : Nat} {p : Nat → Int}
theorem wk_le {lo : Int} (hp : Pot ST p) (hlo : ∀ v, S v → lo ≤ p v) {k v : Nat} {d : Int} (h : Wk ST S k v d) : d ≤ p v - lo := by
 induction h with
 | start v h => have := hlo v h; omega
 | step k v d s _ hs ih => have := hp v s hs; omega
theorem wk_lt (hg : GoodN n ST) (hS : ∀ v, S v → v < n) {k v : Nat} {d : Int} (h : Wk ST S k v d) : v < n := by
 cases h with
 | start v h => exact hS v h
 | step k v d s _ hs => have := hg v s hs; omega
theorem wk_bd (hg : GoodN n ST) {k v : Nat} {d : Int} (h : Wk ST S k v d) : -(16777216 * (k : Int)) ≤ d ∧ d ≤ 16777216 * (k : Int) := by
 induction h with
 | start v h => omega
 | step k v d s _ hs ih => have := hg v s hs; omega
def Opt (ST : Nat → List Stp) (S : Nat → Prop) (v : Nat) (d : Int) : Prop := (∃ k, Wk ST S k v d) ∧ ∀ k d', Wk ST S k v d' → d' ≤ d
theorem opt_eq {v : Nat} {d d' : Int} (h : Opt ST S v d) (h' : Opt ST S v d') : d = d' := by
 obtain ⟨⟨k, hk⟩, h1⟩ := h
 obtain ⟨⟨k', hk'⟩, h2⟩ := h'
 have := h1 k' d' hk'
 have := h2 k d hk
 omega
theorem exists_max {P : Int → Prop} {B : Int} (hb : ∀ d, P d → d ≤ B) : ∀ (m : Nat) (a : Int), P a → B - a ≤ m → ∃ d, P d ∧ ∀ d', P d' → d' ≤ d := by
 intro m
 induction m with
 | zero => intro a ha hm; exact ⟨a, ha, fun d' hd => by have := hb d' hd; omega⟩
 | succ m ih =>
  intro a ha hm
  by_cases h : ∃ d, P d ∧ a < d
  ·obtain ⟨d, hd, hlt⟩ := h
   exact ih d hd (by omega)
  ·exact ⟨a, ha, fun d' hd => by
    rcases Int.lt_or_le a d' with h1 | h1
    ·exact absurd ⟨d', hd, h1⟩ h
    ·exact h1⟩
theorem opt_ex {lo : Int} (hp : Pot ST p) (hlo : ∀ v, S v → lo ≤ p v) {k v : Nat} {d : Int} (h : Wk ST S k v d) : ∃ d', Opt ST S v d' := by
 obtain ⟨d', ⟨k', h1⟩, h2⟩ := exists_max (P := fun d => ∃ k, Wk ST S k v d) (B := p v - lo) (fun d ⟨k, hk⟩ => wk_le hp hlo hk) (p v - lo - d).toNat d ⟨k, h⟩ (by omega)
 exact ⟨d', ⟨k', h1⟩, fun k d'' hd => h2 d'' ⟨k, hd⟩⟩
def MinK (ST : Nat → List Stp) (S : Nat → Prop) (k v : Nat) : Prop := ∃ d, Opt ST S v d ∧ Wk ST S k v d ∧ ∀ j, j < k → ¬ Wk ST S j v d
theorem minK_chain : ∀ (k v : Nat), MinK ST S k v → ∃ g : Nat → Nat, ∀ i, i ≤ k → MinK ST S i (g i) := by
 intro k
 induction k with
 | zero => intro v h; exact ⟨fun _ => v, fun i hi => by rw [show i = 0 by omega]; exact h⟩
 | succ k ih =>
  intro v h
  have h0 := h
  obtain ⟨d, ho, hw, hmin⟩ := h
  cases hw with
  | step _ u d0 s hu hs =>
   have hou : Opt ST S u d0 := ⟨⟨k, hu⟩, fun j d1 h1 => by
    have := ho.2 _ _ (Wk.step j u d1 s h1 hs)
    omega⟩
   obtain ⟨g, hg⟩ := ih u ⟨d0, hou, hu, fun j hj hwj => hmin (j + 1) (by omega) (.step j u d0 s hwj hs)⟩
   refine ⟨fun i => if i = k + 1 then s.1.toNat else g i, fun i hi => ?_⟩
   simp only
   split
   ·rename_i h; rw [h]; exact h0
   ·exact hg i (by omega)
theorem minK_ex {v : Nat} {d : Int} (h : Opt ST S v d) : ∃ k, MinK ST S k v := by
 obtain ⟨k, hk⟩ := h.1
 have key : ∀ m k, k ≤ m → Wk ST S k v d → ∃ k, MinK ST S k v := by
  intro m
  induction m with
  | zero => intro k hk0 hk; exact ⟨k, d, h, hk, fun j hj => by omega⟩
  | succ m ih =>
   intro k hkm hk
   by_cases hex : ∃ j, j < k ∧ Wk ST S j v d
   ·obtain ⟨j, hj, hw⟩ := hex
    exact ih j (by omega) hw
   ·exact ⟨k, d, h, hk, fun j hj hw => hex ⟨j, hj, hw⟩⟩
 exact key k k (Nat.le_refl _) hk
theorem opt_short (hg : GoodN n ST) (hS : ∀ v, S v → v < n) {v : Nat} {d : Int} (h : Opt ST S v d) : ∃ k, k + 1 ≤ n ∧ Wk ST S k v d := by
 obtain ⟨k, hk⟩ := minK_ex h
 obtain ⟨g, hgm⟩ := minK_chain k v hk
 have hle : k + 1 ≤ n := inj_le (g := g) (fun i hi => by
  obtain ⟨d, _, hw, _⟩ := hgm i (by omega)
  exact wk_lt hg hS hw) (fun i j hij hj he => by
  obtain ⟨d1, o1, w1, m1⟩ := hgm i (by omega)
  obtain ⟨d2, o2, w2, m2⟩ := hgm j (by omega)
  rw [he] at o1 w1
  have := opt_eq o1 o2
  subst this
  exact m2 i hij w1)
 obtain ⟨d', o, w, _⟩ := hk
 rw [opt_eq h o]
 exact ⟨k, hle, w⟩
end partU
section partV

abbrev lgW (W : List Way) (v : Nat) : Int := (wAt W (v : Int)).1
abbrev bgW (W : List Way) (v : Int) : Bool := (wAt W v).2.2.2
def Stop (W : List Way) (v : Int) (k : Nat) : Prop := bgW W (backN W v k) = true ∧ ∀ j, j < k → bgW W (backN W v j) = false
def Rch (W : List Way) (v : Nat) : Prop := lgW W v ≠ -1152921504606846976
def ParOk (ST : Nat → List Stp) (S : Nat → Prop) (n : Nat) (W : List Way) (v : Nat) : Prop :=
 (wAt W (v : Int) = wayB ∧ S v) ∨ (∃ u : Nat, u < n ∧ Rch W u ∧ (wAt W (v : Int)).2.1 = u ∧ (wAt W (v : Int)).2.2.1 ∈ ST u ∧ (wAt W (v : Int)).2.2.1.1 = v ∧ bgW W v = false ∧ lgW W v ≤ lgW W u + (wAt W (v : Int)).2.2.1.2.1)
structure InvW (ST : Nat → List Stp) (S : Nat → Prop) (n c : Nat) (W : List Way) : Prop where
 len : W.length = n
 sound : ∀ v, v < n → wAt W (v : Int) = wayN ∨ (Rch W v ∧ ∃ j, j ≤ c ∧ Wk ST S j v (lgW W v))
 starts : ∀ v, S v → v < n ∧ 0 ≤ lgW W v
 par : ∀ v, v < n → Rch W v → ParOk ST S n W v
 chain : ∀ v, v < n → Rch W v → ∃ k, Stop W v k
variable {ST : Nat → List Stp} {S : Nat → Prop} {n : Nat} {p : Nat → Int}
theorem rch_of {c : Nat} {W : List Way} (h : InvW ST S n c W) {v : Nat} (hv : v < n) (hr : Rch W v) : ∃ j, j ≤ c ∧ Wk ST S j v (lgW W v) := by
 rcases h.sound v hv with h1 | h1
 ·exact absurd (by rw [lgW, h1]; rfl) hr
 ·exact h1.2
theorem back_add (W : List Way) (v : Int) (i : Nat) : ∀ j, backN W v (i + j) = backN W (backN W v i) j
 | 0 => rfl
 | j + 1 => by rw [← Nat.add_assoc, backN_succ, backN_succ, back_add W v i j]
theorem chain_pot {c : Nat} {W : List Way} (hp : Pot ST p) (h : InvW ST S n c W) {v : Nat} (hv : v < n) (hr : Rch W v) {k : Nat} (hk : ∀ j, j < k → bgW W (backN W v j) = false) :
  ∀ i, i ≤ k → ∃ u : Nat, backN W v i = u ∧ u < n ∧ Rch W u ∧ lgW W v - lgW W u ≤ p v - p u := by
 intro i
 induction i with
 | zero => intro _; exact ⟨v, rfl, hv, hr, by omega⟩
 | succ i ih =>
  intro hi
  obtain ⟨u, hu, hun, hur, hle⟩ := ih (by omega)
  have hb := hk i (by omega)
  rw [hu] at hb
  rcases h.par u hun hur with ⟨h1, _⟩ | ⟨x, hx, hxr, h1, h2, h3, _, h5⟩
  ·rw [bgW, h1] at hb; cases hb
  ·refine ⟨x, by rw [backN_succ, hu]; exact h1, hx, hxr, ?_⟩
   have := hp x _ h2
   rw [h3, Int.toNat_natCast] at this
   omega
theorem stop_inj {W : List Way} {v : Int} {k : Nat} (h : Stop W v k) : ∀ i j, i < j → j ≤ k → backN W v i ≠ backN W v j := by
 intro i j hij hjk he
 obtain ⟨h1, h2⟩ := h
 have e1 : backN W v (j + (k - j)) = backN W (backN W v j) (k - j) := back_add W v j (k - j)
 have e2 : backN W v (i + (k - j)) = backN W (backN W v i) (k - j) := back_add W v i (k - j)
 rw [he, ← e1, show j + (k - j) = k by omega] at e2
 have := h2 (i + (k - j)) (by omega)
 rw [e2, h1] at this; cases this
theorem relax_inv {c : Nat} {W : List Way} (hp : Pot ST p) (hg : GoodN n ST) (hc : c + 1 ≤ 34359738368) (h : InvW ST S n (c + 1) W) {v : Nat} {s : Stp} (hv : v < n) (hr : Rch W v) (hw : ∃ j, j ≤ c ∧ Wk ST S j v (lgW W v)) (hs : s ∈ ST v)
  (hlt : (wAt W s.1).1 < (wAt W v).1 + s.2.1) : InvW ST S n (c + 1) (W.set s.1.toNat ((wAt W v).1 + s.2.1, v, s, false)) := by
 obtain ⟨hvn, hs0, hsn, hsv, hl1, hl2⟩ := hg v s hs
 obtain ⟨j, hj, hwk⟩ := hw
 obtain ⟨t, ht⟩ : ∃ t : Nat, s.1 = t := ⟨s.1.toNat, by omega⟩
 have htn : t < n := by omega
 have hset : ∀ u : Nat, wAt (W.set s.1.toNat ((wAt W v).1 + s.2.1, v, s, false)) (u : Int) = if (u : Int) = s.1 then ((wAt W v).1 + s.2.1, (v : Int), s, false) else wAt W u :=
  fun u => wAt_set (by omega) hs0 (by rw [h.len]; omega)
 have hbd := wk_bd hg hwk
 simp only [lgW] at hbd
 have hnew : (wAt W v).1 + s.2.1 ≠ -1152921504606846976 := by omega
 have hpv := hp v s hs
 rw [ht, Int.toNat_natCast] at hpv
 have hltt : lgW W t < lgW W v + s.2.1 := by rw [lgW, lgW, ← ht]; exact hlt
 have hltt2 : (wAt W (t : Int)).1 < (wAt W (v : Int)).1 + s.2.1 := hltt
 generalize hW' : W.set s.1.toNat ((wAt W v).1 + s.2.1, (v : Int), s, false) = W' at hset ⊢
 have hT : wAt W' (t : Int) = (lgW W v + s.2.1, (v : Int), s, false) := by rw [hset, if_pos ht.symm]
 have hO : ∀ u : Nat, u ≠ t → wAt W' (u : Int) = wAt W u := fun u hu => by rw [hset, if_neg (by omega)]
 have hmono : ∀ u : Nat, lgW W u ≤ lgW W' u := fun u => by
  by_cases hu : u = t
  ·subst hu; rw [lgW, lgW, hT]; exact Int.le_of_lt hltt2
  ·rw [lgW, lgW, hO u hu]; exact Int.le_refl _
 have hrT : Rch W' t := by rw [Rch, lgW, hT]; exact hnew
 have hrO : ∀ u : Nat, u ≠ t → (Rch W' u ↔ Rch W u) := fun u hu => by rw [Rch, Rch, lgW, lgW, hO u hu]
 have hvt : v ≠ t := by omega
 -- the chain of v does not meet t
 obtain ⟨kv, hkv⟩ := h.chain v hv hr
 have hcv := chain_pot hp h hv hr hkv.2
 have hno : ∀ i, i ≤ kv → backN W v i ≠ (t : Int) := by
  intro i hi he
  obtain ⟨u, hu, _, _, hle⟩ := hcv i hi
  have : u = t := by rw [he] at hu; omega
  subst this
  omega
 have hsame : ∀ i, i ≤ kv → backN W' v i = backN W v i := by
  intro i
  induction i with
  | zero => intro _; rfl
  | succ i ih =>
   intro hi
   obtain ⟨u, hu, _⟩ := hcv i (by omega)
   have := hno i (by omega)
   rw [backN_succ, backN_succ, ih (by omega), hu, hO u (by rw [hu] at this; omega)]
 have hstopv : Stop W' v kv := by
  refine ⟨?_, fun j hj => ?_⟩
  ·obtain ⟨u, hu, _⟩ := hcv kv (Nat.le_refl _)
   have h1 := hno kv (Nat.le_refl _)
   rw [hsame kv (Nat.le_refl _), hu, bgW, hO u (by rw [hu] at h1; omega), ← hu]; exact hkv.1
  ·obtain ⟨u, hu, _⟩ := hcv j (by omega)
   have h1 := hno j (by omega)
   rw [hsame j (by omega), hu, bgW, hO u (by rw [hu] at h1; omega), ← hu]; exact hkv.2 j hj
 have hstopt : Stop W' t (1 + kv) := by
  have hb1 : backN W' (t : Int) 1 = v := by rw [backN_succ]; show (wAt W' (t : Int)).2.1 = v; rw [hT]
  refine ⟨by rw [back_add, hb1]; exact hstopv.1, fun j hj => ?_⟩
  cases j with
  | zero => show (wAt W' (t : Int)).2.2.2 = false; rw [hT]
  | succ j => rw [show j + 1 = 1 + j by omega, back_add, hb1]; exact hstopv.2 j (by omega)
 refine ⟨by rw [← hW']; simp [h.len], fun u hu => ?_, fun u hu => ?_, fun u hu hru => ?_, fun u hu hru => ?_⟩
 ·by_cases hut : u = t
  ·subst hut
   right
   refine ⟨hrT, j + 1, by omega, ?_⟩
   have := Wk.step j v _ s hwk hs
   rw [ht, Int.toNat_natCast] at this
   rw [lgW, hT]; exact this
  ·rw [hrO u hut, lgW, hO u hut]; exact h.sound u hu
 ·have := h.starts u hu
  have := hmono u
  omega
 ·by_cases hut : u = t
  ·subst hut
   right
   refine ⟨v, hv, (hrO v hvt).2 hr, by rw [hT], by rw [hT]; exact hs, by rw [hT]; exact ht, by rw [bgW, hT], ?_⟩
   rw [lgW, hT]
   exact Int.add_le_add_right (hmono v) _
  ·have hru' := (hrO u hut).1 hru
   rcases h.par u hu hru' with ⟨h1, h2⟩ | ⟨x, hx, hxr, h1, h2, h3, h4, h5⟩
   ·left; rw [hO u hut]; exact ⟨h1, h2⟩
   ·right
    refine ⟨x, hx, ?_, ?_⟩
    ·by_cases hxt : x = t
     ·subst hxt; exact hrT
     ·exact (hrO x hxt).2 hxr
    ·rw [lgW, bgW, hO u hut]
     exact ⟨h1, h2, h3, h4, Int.le_trans h5 (Int.add_le_add_right (hmono x) _)⟩
 ·by_cases hut : u = t
  ·subst hut; exact ⟨_, hstopt⟩
  ·have hru' := (hrO u hut).1 hru
   obtain ⟨k, hk⟩ := h.chain u hu hru'
   have hcu := chain_pot hp h hu hru' hk.2
   -- does the chain of u meet t?
   have hpre : ∀ i, i ≤ k → (∀ j, j < i → backN W u j ≠ (t : Int)) → backN W' u i = backN W u i := by
    intro i
    induction i with
    | zero => intro _ _; rfl
    | succ i ih =>
     intro hi hno
     obtain ⟨x, hx, _⟩ := hcu i (by omega)
     have := hno i (by omega)
     rw [backN_succ, backN_succ, ih (by omega) (fun j hj => hno j (by omega)), hx, hO x (by rw [hx] at this; omega)]
   have hbg : ∀ i, i ≤ k → backN W u i ≠ (t : Int) → bgW W' (backN W u i) = bgW W (backN W u i) := by
    intro i hi hne
    obtain ⟨x, hx, _⟩ := hcu i hi
    rw [hx, bgW, bgW, hO x (by rw [hx] at hne; omega)]
   by_cases hmeet : ∃ i, i ≤ k ∧ backN W u i = (t : Int)
   ·have least : ∀ m i, i ≤ m → i ≤ k → backN W u i = (t : Int) → ∃ i, i ≤ k ∧ backN W u i = (t : Int) ∧ ∀ j, j < i → backN W u j ≠ (t : Int) := by
     intro m
     induction m with
     | zero => intro i hi hik he; exact ⟨i, hik, he, fun j hj => by omega⟩
     | succ m ih =>
      intro i hi hik he
      by_cases hex : ∃ j, j < i ∧ backN W u j = (t : Int)
      ·obtain ⟨j, hj, hje⟩ := hex
       exact ih j (by omega) (by omega) hje
      ·exact ⟨i, hik, he, fun j hj hje => hex ⟨j, hj, hje⟩⟩
    obtain ⟨i, hi, he⟩ := hmeet
    obtain ⟨i, hik, hie, hno2⟩ := least i i (Nat.le_refl _) hi he
    have e1 : backN W' u i = (t : Int) := by rw [hpre i hik hno2, hie]
    refine ⟨i + (1 + kv), by rw [back_add, e1]; exact hstopt.1, fun j hj => ?_⟩
    rcases Nat.lt_or_ge j i with h1 | h1
    ·rw [hpre j (by omega) (fun j' hj' => hno2 j' (by omega)), hbg j (by omega) (hno2 j h1)]
     exact hk.2 j (by omega)
    ·rw [show j = i + (j - i) by omega, back_add, e1]; exact hstopt.2 (j - i) (by omega)
   ·have hno2 : ∀ i, i ≤ k → backN W u i ≠ (t : Int) := fun i hi he => hmeet ⟨i, hi, he⟩
    refine ⟨k, ?_, fun j hj => ?_⟩
    ·rw [hpre k (Nat.le_refl _) (fun j hj => hno2 j (by omega)), hbg k (Nat.le_refl _) (hno2 k (Nat.le_refl _))]; exact hk.1
    ·rw [hpre j (by omega) (fun j' hj' => hno2 j' (by omega)), hbg j (by omega) (hno2 j (by omega))]; exact hk.2 j hj
end partV
section partX
variable {ST : Nat → List Stp} {S : Nat → Prop} {n : Nat} {p : Nat → Int}

structure InvQ (ST : Nat → List Stp) (n : Nat) (σ : LS) (rest : Int → Prop) (ex : Nat → Prop) : Prop where
 lenW : σ.1.length = n
 lenB : σ.2.1.length = n
 wait : ∀ v : Nat, v < n → bAt σ.2.1 v = true → (v : Int) ∈ σ.2.2 ∨ rest v
 sat : ∀ v : Nat, v < n → Rch σ.1 v → ¬ ex v → (∀ s ∈ ST v, lgW σ.1 v + s.2.1 ≤ (wAt σ.1 s.1).1) ∨ (v : Int) ∈ σ.2.2 ∨ rest v
 pr : ∀ x, x ∈ σ.2.2 ∨ rest x → 0 ≤ x ∧ x < (n : Int)
theorem bAt_set {B : List Bool} {u v : Int} {x : Bool} (h1 : 0 ≤ u) (h2 : 0 ≤ v) (h3 : v.toNat < B.length) : bAt (B.set v.toNat x) u = if u = v then x else bAt B u := by
 rw [bAt, List.getElem?_set]
 by_cases h : u = v
 ·subst h; rw [if_pos rfl, if_pos h3, if_pos rfl]; rfl
 ·rw [if_neg (by omega), if_neg h]; rfl
theorem relax_q {σ : LS} {rest : Int → Prop} {v : Nat} {s : Stp} (hg : GoodN n ST) (h : InvQ ST n σ rest (· = v)) (hs : s ∈ ST v) :
  InvQ ST n (relax v σ s) rest (· = v) ∧ (∀ u : Nat, lgW σ.1 u ≤ lgW (relax v σ s).1 u) ∧ lgW (relax v σ s).1 v = lgW σ.1 v ∧ lgW σ.1 v + s.2.1 ≤ (wAt (relax v σ s).1 s.1).1 := by
 obtain ⟨hvn, hs0, hsn, hsv, hl1, hl2⟩ := hg v s hs
 by_cases hlt : (wAt σ.1 s.1).1 < (wAt σ.1 v).1 + s.2.1
 ·have hset : ∀ u : Nat, wAt (σ.1.set s.1.toNat ((wAt σ.1 v).1 + s.2.1, v, s, false)) (u : Int) = if (u : Int) = s.1 then ((wAt σ.1 v).1 + s.2.1, (v : Int), s, false) else wAt σ.1 u :=
   fun u => wAt_set (by omega) hs0 (by rw [h.lenW]; omega)
  have hsets : wAt (σ.1.set s.1.toNat ((wAt σ.1 v).1 + s.2.1, v, s, false)) s.1 = ((wAt σ.1 v).1 + s.2.1, (v : Int), s, false) := by
   rw [wAt_set hs0 hs0 (by rw [h.lenW]; omega), if_pos rfl]
  have hmono : ∀ u : Nat, lgW σ.1 u ≤ lgW (σ.1.set s.1.toNat ((wAt σ.1 v).1 + s.2.1, v, s, false)) u := fun u => by
   rw [lgW, lgW, hset]; split
   ·rename_i he; rw [he]; dsimp only; omega
   ·exact Int.le_refl _
  have hmono2 : ∀ x : Int, 0 ≤ x → (wAt σ.1 x).1 ≤ (wAt (σ.1.set s.1.toNat ((wAt σ.1 v).1 + s.2.1, v, s, false)) x).1 := fun x hx => by
   have := hmono x.toNat
   rwa [lgW, lgW, show ((x.toNat : Nat) : Int) = x by omega] at this
  have hv' : lgW (σ.1.set s.1.toNat ((wAt σ.1 v).1 + s.2.1, v, s, false)) v = lgW σ.1 v := by rw [lgW, lgW, hset, if_neg (by omega)]
  have hsat : ∀ u : Nat, u < n → Rch (σ.1.set s.1.toNat ((wAt σ.1 v).1 + s.2.1, v, s, false)) u → ¬ u = v → (u : Int) ≠ s.1 →
    (∀ s' ∈ ST u, lgW (σ.1.set s.1.toNat ((wAt σ.1 v).1 + s.2.1, v, s, false)) u + s'.2.1 ≤ (wAt (σ.1.set s.1.toNat ((wAt σ.1 v).1 + s.2.1, v, s, false)) s'.1).1) ∨ (u : Int) ∈ σ.2.2 ∨ rest u := by
   intro u hu hru hne hus
   have e : lgW (σ.1.set s.1.toNat ((wAt σ.1 v).1 + s.2.1, v, s, false)) u = lgW σ.1 u := by rw [lgW, lgW, hset, if_neg hus]
   rw [Rch, e] at hru
   rcases h.sat u hu hru hne with h1 | h1
   ·left
    intro s' hs'
    have := h1 s' hs'
    have := hmono2 s'.1 (hg u s' hs').2.1
    rw [e]; omega
   ·exact .inr h1
  rcases hb : bAt σ.2.1 s.1 with _ | _
  ·have er : relax v σ s = (σ.1.set s.1.toNat ((wAt σ.1 v).1 + s.2.1, v, s, false), σ.2.1.set s.1.toNat true, σ.2.2 ++ [s.1]) := by
    rw [relax, if_pos hlt, if_neg (by rw [hb]; exact Bool.false_ne_true)]
   rw [er]
   refine ⟨⟨by simp [h.lenW], by simp [h.lenB], fun u hu hbu => ?_, fun u hu hru hne => ?_, fun x hx => ?_⟩, hmono, hv', by dsimp only; rw [hsets]; exact Int.le_refl _⟩
   ·dsimp only at hbu ⊢
    rw [bAt_set (by omega) hs0 (by rw [h.lenB]; omega)] at hbu
    split at hbu
    ·rename_i he; left; rw [he]; simp
    ·rcases h.wait u hu hbu with h1 | h1
     ·left; exact List.mem_append_left _ h1
     ·exact .inr h1
   ·by_cases hus : (u : Int) = s.1
    ·right; left; rw [hus]; simp
    ·rcases hsat u hu hru hne hus with h1 | h1 | h1
     ·exact .inl h1
     ·exact .inr (.inl (List.mem_append_left _ h1))
     ·exact .inr (.inr h1)
   ·rcases hx with hx | hx
    ·rcases List.mem_append.1 hx with hx | hx
     ·exact h.pr x (.inl hx)
     ·rw [List.mem_singleton.1 hx]; exact ⟨hs0, hsn⟩
    ·exact h.pr x (.inr hx)
  ·have er : relax v σ s = (σ.1.set s.1.toNat ((wAt σ.1 v).1 + s.2.1, v, s, false), σ.2.1, σ.2.2) := by rw [relax, if_pos hlt, if_pos hb]
   rw [er]
   refine ⟨⟨by simp [h.lenW], h.lenB, h.wait, fun u hu hru hne => ?_, h.pr⟩, hmono, hv', by dsimp only; rw [hsets]; exact Int.le_refl _⟩
   by_cases hus : (u : Int) = s.1
   ·right
    have := h.wait s.1.toNat (by omega) (by rw [show ((s.1.toNat : Nat) : Int) = s.1 by omega]; exact hb)
    rwa [hus, show s.1 = ((s.1.toNat : Nat) : Int) by omega]
   ·exact hsat u hu hru hne hus
 ·have er : relax v σ s = σ := by rw [relax, if_neg hlt]
  rw [er]
  exact ⟨h, fun u => Int.le_refl _, rfl, by simp only [lgW]; omega⟩
theorem inner_q {σ : LS} {rest : Int → Prop} {v : Nat} (hg : GoodN n ST) (hv : v < n) (h : InvQ ST n σ (fun x => x = v ∨ rest x) (fun _ => False)) :
  ∀ i, i ≤ (ST v).length → InvQ ST n (inner (ST v) v σ i) rest (· = v) ∧ (∀ u : Nat, lgW σ.1 u ≤ lgW (inner (ST v) v σ i).1 u) ∧ lgW (inner (ST v) v σ i).1 v = lgW σ.1 v ∧
   ∀ s ∈ (ST v).take i, lgW σ.1 v + s.2.1 ≤ (wAt (inner (ST v) v σ i).1 s.1).1 := by
 intro i
 induction i with
 | zero =>
  intro _
  refine ⟨⟨h.lenW, by simp [inner, h.lenB], fun u hu hb => ?_, fun u hu hr hne => ?_, fun x hx => ?_⟩, fun u => Int.le_refl _, rfl, by simp⟩
  ·simp only [inner, List.take_zero, List.foldl_nil] at hb ⊢
   rw [bAt_set (by omega) (by omega) (by rw [h.lenB]; omega)] at hb
   split at hb
   ·cases hb
   ·rename_i hne
    rcases h.wait u hu hb with h1 | h1 | h1
    ·exact .inl h1
    ·exact absurd h1 hne
    ·exact .inr h1
  ·rcases h.sat u hu hr (fun h => h) with h1 | h1 | h1 | h1
   ·exact .inl h1
   ·exact .inr (.inl h1)
   ·exact absurd (by omega) hne
   ·exact .inr (.inr h1)
  ·rcases hx with hx | hx
   ·exact h.pr x (.inl hx)
   ·exact h.pr x (.inr (.inr hx))
 | succ i ih =>
  intro hi
  obtain ⟨h1, h2, h3, h4⟩ := ih (by omega)
  obtain ⟨s, hs⟩ := get_some (show i < (ST v).length by omega)
  have hsm := List.mem_of_getElem? hs
  obtain ⟨r1, r2, r3, r4⟩ := relax_q hg h1 hsm
  rw [inner_succ hs]
  refine ⟨r1, fun u => Int.le_trans (h2 u) (r2 u), r3.trans h3, fun s' hs' => ?_⟩
  rw [take_snoc hs] at hs'
  rcases List.mem_append.1 hs' with hs' | hs'
  ·have e := h4 s' hs'
   have h0 := (hg v s' (List.mem_of_mem_take hs')).2.1
   have := r2 s'.1.toNat
   rw [lgW, lgW, show ((s'.1.toNat : Nat) : Int) = s'.1 by omega] at this
   omega
  ·rw [List.mem_singleton.1 hs', ← h3]; exact r4
theorem inner_end {σ : LS} {rest : Int → Prop} {v : Nat} (hg : GoodN n ST) (hv : v < n) (h : InvQ ST n σ (fun x => x = v ∨ rest x) (fun _ => False)) :
  InvQ ST n (inner (ST v) v σ (ST v).length) rest (fun _ => False) ∧ (∀ u : Nat, lgW σ.1 u ≤ lgW (inner (ST v) v σ (ST v).length).1 u) ∧
   ∀ s ∈ ST v, lgW σ.1 v + s.2.1 ≤ (wAt (inner (ST v) v σ (ST v).length).1 s.1).1 := by
 obtain ⟨h1, h2, h3, h4⟩ := inner_q hg hv h (ST v).length (Nat.le_refl _)
 rw [List.take_of_length_le (Nat.le_refl _)] at h4
 refine ⟨⟨h1.lenW, h1.lenB, h1.wait, fun u hu hr _ => ?_, h1.pr⟩, h2, h4⟩
 by_cases huv : u = v
 ·subst huv; left; intro s hs; rw [h3]; exact h4 s hs
 ·exact h1.sat u hu hr huv
theorem mid_q {σ : LS} (hg : GoodN n ST) (h : InvQ ST n σ (fun _ => False) (fun _ => False)) :
  ∀ j, j ≤ σ.2.2.length → InvQ ST n (midN ST σ j) (fun x => x ∈ σ.2.2.drop j) (fun _ => False) ∧ (∀ u : Nat, lgW σ.1 u ≤ lgW (midN ST σ j).1 u) ∧
   ∀ x ∈ σ.2.2.take j, ∀ s ∈ ST x.toNat, lgW σ.1 x.toNat + s.2.1 ≤ (wAt (midN ST σ j).1 s.1).1 := by
 intro j
 induction j with
 | zero =>
  intro _
  refine ⟨⟨h.lenW, h.lenB, fun u hu hb => ?_, fun u hu hr hne => ?_, fun x hx => ?_⟩, fun u => Int.le_refl _, by simp⟩
  ·rcases h.wait u hu hb with h1 | h1
   ·right; simpa using h1
   ·exact h1.elim
  ·rcases h.sat u hu hr hne with h1 | h1 | h1
   ·exact .inl h1
   ·right; right; simpa using h1
   ·exact h1.elim
  ·rcases hx with hx | hx
   ·simp [midN] at hx
   ·exact h.pr x (.inl (by simpa using hx))
 | succ j ih =>
  intro hj
  obtain ⟨h1, h2, h3⟩ := ih (by omega)
  obtain ⟨x, hx⟩ := get_some (show j < σ.2.2.length by omega)
  have hxb := h.pr x (.inl (List.mem_of_getElem? hx))
  have hdrop : σ.2.2.drop j = x :: σ.2.2.drop (j + 1) := by
   rw [List.drop_eq_getElem_cons (by omega)]
   congr 1
   rw [List.getElem?_eq_getElem (by omega)] at hx
   exact Option.some.inj hx
  have h1' : InvQ ST n (midN ST σ j) (fun y => y = ((x.toNat : Nat) : Int) ∨ y ∈ σ.2.2.drop (j + 1)) (fun _ => False) := by
   have hpe : ∀ y, y ∈ σ.2.2.drop j ↔ (y = ((x.toNat : Nat) : Int) ∨ y ∈ σ.2.2.drop (j + 1)) := fun y => by
    rw [hdrop, List.mem_cons, show ((x.toNat : Nat) : Int) = x by omega]
   refine ⟨h1.lenW, h1.lenB, fun u hu hb => ?_, fun u hu hr hne => ?_, fun y hy => ?_⟩
   ·rcases h1.wait u hu hb with h | h
    ·exact .inl h
    ·exact .inr ((hpe _).1 h)
   ·rcases h1.sat u hu hr hne with h | h | h
    ·exact .inl h
    ·exact .inr (.inl h)
    ·exact .inr (.inr ((hpe _).1 h))
   ·rcases hy with hy | hy
    ·exact h1.pr y (.inl hy)
    ·exact h1.pr y (.inr ((hpe _).2 hy))
  obtain ⟨e1, e2, e3⟩ := inner_end hg (show x.toNat < n by omega) h1'
  rw [mid_succ hx]
  rw [show ((x.toNat : Nat) : Int) = x by omega] at e1 e2 e3
  refine ⟨e1, fun u => Int.le_trans (h2 u) (e2 u), fun y hy s hs => ?_⟩
  rw [take_snoc hx] at hy
  rcases List.mem_append.1 hy with hy | hy
  ·have e := h3 y hy s hs
   have h0 := (hg y.toNat s hs).2.1
   have := e2 s.1.toNat
   rw [lgW, lgW, show ((s.1.toNat : Nat) : Int) = s.1 by omega] at this
   omega
  ·rw [List.mem_singleton.1 hy] at hs ⊢
   have e := e3 s hs
   have := h2 x.toNat
   rw [lgW, lgW, show ((x.toNat : Nat) : Int) = x by omega] at this
   rw [lgW, show ((x.toNat : Nat) : Int) = x by omega]
   rw [lgW, show ((x.toNat : Nat) : Int) = x by omega] at e
   omega
theorem iter_q {σ : LS} (hg : GoodN n ST) (h : InvQ ST n σ (fun _ => False) (fun _ => False)) :
  ∀ k, InvQ ST n (iterL ST σ k) (fun _ => False) (fun _ => False) ∧ ∀ u : Nat, lgW σ.1 u ≤ lgW (iterL ST σ k).1 u := by
 intro k
 induction k with
 | zero => exact ⟨h, fun u => Int.le_refl _⟩
 | succ k ih =>
  obtain ⟨h1, h2, _⟩ := mid_q hg ih.1 _ (Nat.le_refl _)
  refine ⟨⟨h1.lenW, h1.lenB, fun u hu hb => ?_, fun u hu hr hne => ?_, fun x hx => ?_⟩, fun u => Int.le_trans (ih.2 u) (h2 u)⟩
  ·rcases h1.wait u hu hb with h | h
   ·exact .inl h
   ·simp at h
  ·rcases h1.sat u hu hr hne with h | h | h
   ·exact .inl h
   ·exact .inr (.inl h)
   ·simp at h
  ·rcases hx with hx | hx
   ·exact h1.pr x (.inl hx)
   ·exact hx.elim
theorem startW_at {n : Nat} {st : List Int} (hst : ∀ x ∈ st, 0 ≤ x ∧ x < (n : Int)) : ∀ j, j ≤ st.length → ∀ v : Nat, v < n → wAt (startW n st j) v = if (v : Int) ∈ st.take j then wayB else wayN := by
 intro j
 induction j with
 | zero => intro _ v hv; simp [startW, wAt, hv]
 | succ j ih =>
  intro hj v hv
  obtain ⟨x, hx⟩ := get_some (show j < st.length by omega)
  have hxb := hst x (List.mem_of_getElem? hx)
  rw [startW_succ hx, wAt_set (by omega) hxb.1 (by rw [startW_len]; omega), ih (by omega) v hv, take_snoc hx]
  by_cases h : (v : Int) = x
  ·rw [if_pos h, if_pos (by rw [h]; simp)]
  ·rw [if_neg h]; simp [h]
theorem state0_q {st : List Int} (hst : ∀ x ∈ st, 0 ≤ x ∧ x < (n : Int)) : InvQ ST n (state0 n st) (fun _ => False) (fun _ => False) := by
 refine ⟨startW_len _ _ _, by simp [state0], fun v hv hb => ?_, fun v hv hr _ => ?_, fun x hx => ?_⟩
 ·simp [state0, bAt, hv] at hb
 ·right; left
  have := startW_at hst st.length (Nat.le_refl _) v hv
  rw [Rch, lgW] at hr
  simp only [state0] at hr ⊢
  rw [this] at hr
  split at hr
  ·rename_i h; rwa [List.take_of_length_le (Nat.le_refl _)] at h
  ·exact absurd rfl hr
 ·rcases hx with hx | hx
  ·exact hst x hx
  ·exact hx.elim
theorem firstN_none {q : Nat → Bool} : ∀ {m : Nat}, firstN q m = none → ∀ j, j < m → q j = false := by
 intro m
 induction m with
 | zero => intro _ j hj; omega
 | succ m ih =>
  intro h j hj
  rw [firstN] at h
  cases hm : firstN q m with
  | some i => rw [hm] at h; simp at h
  | none =>
   rw [hm] at h
   rcases Nat.lt_or_ge j m with h1 | h1
   ·exact ih hm j h1
   ·have : j = m := by omega
    subst this
    cases hq : q j with
    | false => rfl
    | true => simp [hq] at h
theorem longest_sat {st : List Int} (hg : GoodN n ST) (hst : ∀ x ∈ st, 0 ≤ x ∧ x < (n : Int)) {W : List Way} (h : longestF n ST st = some W) :
  W.length = n ∧ (∀ v : Nat, v < n → Rch W v → ∀ s ∈ ST v, lgW W v + s.2.1 ≤ (wAt W s.1).1) ∧ ∀ v : Nat, v < n → (v : Int) ∈ st → 0 ≤ lgW W v := by
 rw [longestF] at h
 cases hk : endL n ST st with
 | none => rw [hk] at h; cases h
 | some k =>
  rw [hk] at h
  simp only [Option.map_some, Option.some.injEq] at h
  subst h
  obtain ⟨_, he, _⟩ := firstN_some hk
  have h0 := iter_q hg (state0_q (ST := ST) hst) k
  have hq : (iterL ST (state0 n st) k).2.2 = [] := List.isEmpty_iff.1 he
  refine ⟨h0.1.lenW, fun v hv hr => ?_, fun v hv hm => ?_⟩
  ·rcases h0.1.sat v hv hr (fun h => h) with h1 | h1 | h1
   ·exact h1
   ·rw [hq] at h1; simp at h1
   ·exact h1.elim
  ·have := h0.2 v
   have e := startW_at hst st.length (Nat.le_refl _) v hv
   rw [List.take_of_length_le (Nat.le_refl _), if_pos hm] at e
   have : lgW (state0 n st).1 v = 0 := by rw [lgW]; simp only [state0]; rw [e]; rfl
   omega
end partX
section partY
variable {ST : Nat → List Stp} {S : Nat → Prop} {n : Nat} {p : Nat → Int}

theorem invW_mono {c c' : Nat} {W : List Way} (h : InvW ST S n c W) (hc : c ≤ c') : InvW ST S n c' W :=
 ⟨h.len, fun v hv => by
  rcases h.sound v hv with h1 | ⟨h1, j, hj, hw⟩
  ·exact .inl h1
  ·exact .inr ⟨h1, j, by omega, hw⟩, h.starts, h.par, h.chain⟩
theorem rch_low {c : Nat} {W : List Way} (hg : GoodN n ST) (h : InvW ST S n c W) {v : Nat} (hv : v < n) (hr : Rch W v) : -(16777216 * (c : Int)) ≤ lgW W v := by
 obtain ⟨j, hj, hw⟩ := rch_of h hv hr
 have := wk_bd hg hw
 omega
theorem relax_rch {c : Nat} {σ : LS} (hg : GoodN n ST) (hc : c ≤ 34359738368) (h : InvW ST S n c σ.1) {v : Nat} {s : Stp} (hv : v < n) (hr : Rch σ.1 v) (hs : s ∈ ST v) :
  ∀ u, u < n → Rch σ.1 u → Rch (relax v σ s).1 u := by
 intro u hu hru
 obtain ⟨hvn, hs0, hsn, hsv, hl1, hl2⟩ := hg v s hs
 rw [relax]
 split
 ·rename_i hlt
  rw [Rch, lgW]
  dsimp only
  rw [wAt_set (by omega) hs0 (by rw [h.len]; omega)]
  split
  ·have := rch_low hg h hv hr
   rw [lgW] at this
   dsimp only; omega
  ·exact hru
 ·exact hru
theorem relax_pend {c : Nat} {σ : LS} (hg : GoodN n ST) (hc : c + 1 ≤ 34359738368) (h : InvW ST S n c σ.1) {v : Nat} {s : Stp} (hv : v < n) (hr : Rch σ.1 v) (hs : s ∈ ST v)
  (hq : ∀ x ∈ σ.2.2, 0 ≤ x ∧ x < (n : Int) ∧ Rch σ.1 x.toNat) : ∀ x ∈ (relax v σ s).2.2, 0 ≤ x ∧ x < (n : Int) ∧ Rch (relax v σ s).1 x.toNat := by
 intro x hx
 have hrr := relax_rch hg (by omega) h hv hr hs
 obtain ⟨hvn, hs0, hsn, hsv, hl1, hl2⟩ := hg v s hs
 by_cases hlt : (wAt σ.1 s.1).1 < (wAt σ.1 v).1 + s.2.1
 ·rcases hb : bAt σ.2.1 s.1 with _ | _
  ·have er : relax v σ s = (σ.1.set s.1.toNat ((wAt σ.1 v).1 + s.2.1, v, s, false), σ.2.1.set s.1.toNat true, σ.2.2 ++ [s.1]) := by
    rw [relax, if_pos hlt, if_neg (by rw [hb]; exact Bool.false_ne_true)]
   rw [er] at hx hrr ⊢
   rcases List.mem_append.1 hx with hx | hx
   ·obtain ⟨h1, h2, h3⟩ := hq x hx
    exact ⟨h1, h2, hrr _ (by omega) h3⟩
   ·rw [List.mem_singleton.1 hx]
    refine ⟨hs0, hsn, ?_⟩
    rw [Rch, lgW]
    dsimp only
    rw [wAt_set (by omega) hs0 (by rw [h.len]; omega), if_pos (by omega)]
    have := rch_low hg h hv hr
    rw [lgW] at this
    dsimp only; omega
  ·have er : relax v σ s = (σ.1.set s.1.toNat ((wAt σ.1 v).1 + s.2.1, v, s, false), σ.2.1, σ.2.2) := by rw [relax, if_pos hlt, if_pos hb]
   rw [er] at hx hrr ⊢
   obtain ⟨h1, h2, h3⟩ := hq x hx
   exact ⟨h1, h2, hrr _ (by omega) h3⟩
 ·have er : relax v σ s = σ := by rw [relax, if_neg hlt]
  rw [er] at hx ⊢
  exact hq x hx
theorem inner_w {c : Nat} {σ : LS} (hp : Pot ST p) (hg : GoodN n ST) (hc : c + 2 ≤ 34359738368) (h : InvW ST S n c σ.1) {v : Nat} (hv : v < n) (hr : Rch σ.1 v) (hq : ∀ x ∈ σ.2.2, 0 ≤ x ∧ x < (n : Int) ∧ Rch σ.1 x.toNat) :
  ∀ i, i ≤ (ST v).length → InvW ST S n (c + 1) (inner (ST v) v σ i).1 ∧ (∀ u, u < n → Rch σ.1 u → Rch (inner (ST v) v σ i).1 u) ∧ (∀ x ∈ (inner (ST v) v σ i).2.2, 0 ≤ x ∧ x < (n : Int) ∧ Rch (inner (ST v) v σ i).1 x.toNat) ∧
   lgW (inner (ST v) v σ i).1 v = lgW σ.1 v := by
 intro i
 induction i with
 | zero => intro _; exact ⟨invW_mono h (by omega), fun u _ hu => hu, hq, rfl⟩
 | succ i ih =>
  intro hi
  obtain ⟨h1, h2, h3, h4⟩ := ih (by omega)
  obtain ⟨s, hs⟩ := get_some (show i < (ST v).length by omega)
  have hsm := List.mem_of_getElem? hs
  have hrv := h2 v hv hr
  have hb := hg v s hsm
  rw [inner_succ hs]
  have hrel := relax_rch hg (by omega) h1 hv hrv hsm
  have hpen := relax_pend hg (by omega) h1 hv hrv hsm h3
  refine ⟨?_, fun u hu hru => hrel u hu (h2 u hu hru), hpen, ?_⟩
  ·obtain ⟨j, hj, hw⟩ := rch_of h hv hr
   rw [← h4] at hw
   by_cases hlt : (wAt (inner (ST v) v σ i).1 s.1).1 < (wAt (inner (ST v) v σ i).1 v).1 + s.2.1
   ·have := relax_inv hp hg (by omega) h1 hv hrv ⟨j, hj, hw⟩ hsm hlt
    rw [relax, if_pos hlt]; exact this
   ·rw [relax, if_neg hlt]; exact h1
  ·rw [← h4, relax]
   split
   ·rw [lgW, lgW]
    dsimp only
    rw [wAt_set (by omega) hb.2.1 (by rw [h1.len]; omega), if_neg (by omega)]
   ·rfl
theorem mid_w {c : Nat} {σ : LS} (hp : Pot ST p) (hg : GoodN n ST) (hc : c + σ.2.2.length + 2 ≤ 34359738368) (h : InvW ST S n c σ.1) (hq : ∀ x ∈ σ.2.2, 0 ≤ x ∧ x < (n : Int) ∧ Rch σ.1 x.toNat) :
  ∀ j, j ≤ σ.2.2.length → InvW ST S n (c + j) (midN ST σ j).1 ∧ (∀ u, u < n → Rch σ.1 u → Rch (midN ST σ j).1 u) ∧ (∀ x ∈ (midN ST σ j).2.2, 0 ≤ x ∧ x < (n : Int) ∧ Rch (midN ST σ j).1 x.toNat) := by
 intro j
 induction j with
 | zero => intro _; exact ⟨h, fun u _ hu => hu, by simp [midN]⟩
 | succ j ih =>
  intro hj
  obtain ⟨h1, h2, h3⟩ := ih (by omega)
  obtain ⟨x, hx⟩ := get_some (show j < σ.2.2.length by omega)
  obtain ⟨hx0, hxn, hxr⟩ := hq x (List.mem_of_getElem? hx)
  obtain ⟨e1, e2, e3, _⟩ := inner_w hp hg (by omega) h1 (v := x.toNat) (by omega) (h2 _ (by omega) hxr) h3 _ (Nat.le_refl _)
  rw [mid_succ hx]
  rw [show ((x.toNat : Nat) : Int) = x by omega] at e1 e2 e3
  exact ⟨by rw [← Nat.add_assoc]; exact e1, fun u hu hru => e2 u hu (h2 u hu hru), e3⟩
theorem state0_w {st : List Int} (hst : ∀ x ∈ st, 0 ≤ x ∧ x < (n : Int)) : InvW ST (fun v => (v : Int) ∈ st) n 0 (state0 n st).1 ∧ ∀ x ∈ (state0 n st).2.2, 0 ≤ x ∧ x < (n : Int) ∧ Rch (state0 n st).1 x.toNat := by
 have hat := startW_at hst st.length (Nat.le_refl _)
 rw [List.take_of_length_le (Nat.le_refl _)] at hat
 have hin : ∀ v : Nat, v < n → (v : Int) ∈ st → wAt (state0 n st).1 v = wayB := fun v hv hm => by simp only [state0]; rw [hat v hv, if_pos hm]
 have hout : ∀ v : Nat, v < n → ¬ (v : Int) ∈ st → wAt (state0 n st).1 v = wayN := fun v hv hm => by simp only [state0]; rw [hat v hv, if_neg hm]
 have hrin : ∀ v : Nat, v < n → (v : Int) ∈ st → Rch (state0 n st).1 v := fun v hv hm => by rw [Rch, lgW, hin v hv hm]; simp [wayB]
 have hrout : ∀ v : Nat, v < n → Rch (state0 n st).1 v → (v : Int) ∈ st := fun v hv hr => by
  by_cases hm : (v : Int) ∈ st
  ·exact hm
  ·rw [Rch, lgW, hout v hv hm] at hr; exact absurd rfl hr
 refine ⟨⟨startW_len _ _ _, fun v hv => ?_, fun v hv => ?_, fun v hv hr => ?_, fun v hv hr => ?_⟩, fun x hx => ?_⟩
 ·by_cases hm : (v : Int) ∈ st
  ·right
   refine ⟨hrin v hv hm, 0, Nat.le_refl _, ?_⟩
   rw [lgW, hin v hv hm]; exact .start v hm
  ·left; exact hout v hv hm
 ·have := hst _ hv
  refine ⟨by omega, ?_⟩
  rw [lgW, hin v (by omega) hv]; simp [wayB]
 ·have hm := hrout v hv hr
  exact .inl ⟨hin v hv hm, hm⟩
 ·have hm := hrout v hv hr
  refine ⟨0, ?_, fun j hj => by omega⟩
  show (wAt (state0 n st).1 (v : Int)).2.2.2 = true
  rw [hin v hv hm]; rfl
 ·have hb := hst x hx
  exact ⟨hb.1, hb.2, hrin x.toNat (by omega) (by rw [show ((x.toNat : Nat) : Int) = x by omega]; exact hx)⟩
theorem goodS_of (hg : GoodN n ST) : ∀ v : Nat, v < n → GoodS n v (ST v) := fun v _ s hs => by
 have := hg v s hs
 exact ⟨this.2.1, this.2.2.1, this.2.2.2.1, this.2.2.2.2.1, this.2.2.2.2.2⟩
section search
variable {st : List Int} (hp : Pot ST p) (hg : GoodN n ST) (hn : n ≤ 2048) (hst : ∀ x ∈ st, 0 ≤ x ∧ x < (n : Int)) (hsl : st.length ≤ n)
include hp hg hn hst hsl
theorem iter_w : ∀ k, k ≤ n + 1 → InvW ST (fun v => (v : Int) ∈ st) n (4198400 * k) (iterL ST (state0 n st) k).1 ∧ ∀ x ∈ (iterL ST (state0 n st) k).2.2, 0 ≤ x ∧ x < (n : Int) ∧ Rch (iterL ST (state0 n st) k).1 x.toNat := by
 intro k
 induction k with
 | zero => intro _; exact state0_w hst
 | succ k ih =>
  intro hk
  obtain ⟨h1, h2⟩ := ih (by omega)
  have hq := (iter_good hn (state0_good hst) hsl (goodS_of hg) k (by omega)).2
  have : n * (k + 1) ≤ 2048 * 2050 := Nat.mul_le_mul hn (by omega)
  obtain ⟨e1, _, e3⟩ := mid_w hp hg (by omega) h1 h2 _ (Nat.le_refl _)
  exact ⟨invW_mono e1 (by omega), e3⟩
theorem iter_prog : ∀ k, k ≤ n + 1 → ∀ j v d, j ≤ k → Wk ST (fun v => (v : Int) ∈ st) j v d → Rch (iterL ST (state0 n st) k).1 v ∧ d ≤ lgW (iterL ST (state0 n st) k).1 v := by
 have hS : ∀ v : Nat, (v : Int) ∈ st → v < n := fun v hv => by have := hst _ hv; omega
 intro k
 induction k with
 | zero =>
  intro _ j v d hj hw
  have hj0 : j = 0 := by omega
  subst hj0
  cases hw with
  | start _ h =>
   have hv := hS v h
   have e := startW_at hst st.length (Nat.le_refl _) v hv
   rw [List.take_of_length_le (Nat.le_refl _), if_pos h] at e
   rw [Rch, lgW]
   simp only [iterL, state0]
   rw [e]; simp [wayB]
 | succ k ih =>
  intro hk j v d hj hw
  have hvn := wk_lt hg hS hw
  have hbd := wk_bd hg hw
  obtain ⟨hw1, hw2⟩ := iter_w hp hg hn hst hsl k (by omega)
  have hq := (iter_q hg (state0_q (ST := ST) hst) k).1
  obtain ⟨q1, q2, q3⟩ := mid_q hg hq _ (Nat.le_refl _)
  have key : d ≤ lgW (iterL ST (state0 n st) (k + 1)).1 v → Rch (iterL ST (state0 n st) (k + 1)).1 v ∧ d ≤ lgW (iterL ST (state0 n st) (k + 1)).1 v := fun h =>
   ⟨by rw [Rch]; omega, h⟩
  rcases Nat.lt_or_ge k j with hkj | hkj
  ·have hj1 : j = k + 1 := by omega
   subst hj1
   cases hw with
   | step _ u d0 s hu hs =>
    have hun := wk_lt hg hS hu
    have hs0 := (hg u s hs).2.1
    obtain ⟨i1, i2⟩ := ih (by omega) k u d0 (Nat.le_refl _) hu
    refine key ?_
    have e : ((s.1.toNat : Nat) : Int) = s.1 := by omega
    rw [lgW, e]
    have hm := q2 s.1.toNat
    rw [lgW, lgW, e] at hm
    have hmid : iterL ST (state0 n st) (k + 1) = midN ST (iterL ST (state0 n st) k) (iterL ST (state0 n st) k).2.2.length := rfl
    rw [hmid]
    rcases hq.sat u hun i1 (fun h => h) with h1 | h1 | h1
    ·have := h1 s hs; omega
    ·rw [List.take_of_length_le (Nat.le_refl _)] at q3
     have := q3 u h1 s (by rw [Int.toNat_natCast]; exact hs)
     rw [Int.toNat_natCast] at this
     omega
    ·exact h1.elim
  ·obtain ⟨i1, i2⟩ := ih (by omega) j v d hkj hw
   exact key (Int.le_trans i2 (q2 v))
theorem search_ok : ∃ W, longestF n ST st = some W ∧ InvW ST (fun v => (v : Int) ∈ st) n 8606720000 W ∧ (∀ v d, Opt ST (fun v => (v : Int) ∈ st) v d → Rch W v ∧ lgW W v = d) ∧
  (∀ v : Nat, v < n → Rch W v → Opt ST (fun v => (v : Int) ∈ st) v (lgW W v) ∧ ∀ s ∈ ST v, lgW W v + s.2.1 ≤ (wAt W s.1).1) := by
 have hS : ∀ v : Nat, (v : Int) ∈ st → v < n := fun v hv => by have := hst _ hv; omega
 obtain ⟨lo, hlo⟩ : ∃ lo : Int, ∀ v : Nat, (v : Int) ∈ st → lo ≤ p v := by
  have : ∀ m : Nat, ∃ lo : Int, ∀ v : Nat, v < m → lo ≤ p v := by
   intro m
   induction m with
   | zero => exact ⟨0, fun v hv => by omega⟩
   | succ m ih =>
    obtain ⟨lo, h⟩ := ih
    refine ⟨min lo (p m), fun v hv => ?_⟩
    rcases Nat.lt_or_ge v m with h1 | h1
    ·have := h v h1; omega
    ·have : v = m := by omega
     subst this; omega
  obtain ⟨lo, h⟩ := this n
  exact ⟨lo, fun v hv => h v (hS v hv)⟩
 -- it ends
 have hsome : ∃ k, endL n ST st = some k := by
  cases he : endL n ST st with
  | some k => exact ⟨k, rfl⟩
  | none =>
   exfalso
   have hall := firstN_none he
   rcases Nat.eq_zero_or_pos n with h0 | hpos
   ·have h1 := hall 0 (by omega)
    have : st = [] := by
     cases st with
     | nil => rfl
     | cons x l => have := hst x (by simp); omega
    subst this
    simp [iterL, state0] at h1
   ·obtain ⟨k, hk⟩ : ∃ k, n = k + 1 := ⟨n - 1, by omega⟩
    have hprog := iter_prog hp hg hn hst hsl k (by omega)
    obtain ⟨hw1, hw2⟩ := iter_w hp hg hn hst hsl k (by omega)
    have hq := (iter_q hg (state0_q (ST := ST) hst) k).1
    have hopt : ∀ v d, Opt ST (fun v => (v : Int) ∈ st) v d → d ≤ lgW (iterL ST (state0 n st) k).1 v := fun v d h => by
     obtain ⟨i, hi, hw⟩ := opt_short hg hS h
     exact (hprog i v d (by omega) hw).2
    have hsat : ∀ v : Nat, v < n → Rch (iterL ST (state0 n st) k).1 v → ∀ s ∈ ST v, lgW (iterL ST (state0 n st) k).1 v + s.2.1 ≤ (wAt (iterL ST (state0 n st) k).1 s.1).1 := by
     intro v hv hr s hs
     obtain ⟨j, _, hw⟩ := rch_of hw1 hv hr
     have h1 := Wk.step j v _ s hw hs
     obtain ⟨d', hd'⟩ := opt_ex hp hlo h1
     have := hopt _ _ hd'
     have h2 := hd'.2 _ _ h1
     rw [lgW, show ((s.1.toNat : Nat) : Int) = s.1 by have := (hg v s hs).2.1; omega] at this
     omega
    have hquiet : ∀ j, j ≤ (iterL ST (state0 n st) k).2.2.length → (midN ST (iterL ST (state0 n st) k) j).1 = (iterL ST (state0 n st) k).1 ∧ (midN ST (iterL ST (state0 n st) k) j).2.2 = [] := by
     intro j
     induction j with
     | zero => intro _; exact ⟨rfl, rfl⟩
     | succ j ih =>
      intro hj
      obtain ⟨e1, e2⟩ := ih (by omega)
      obtain ⟨x, hx⟩ := get_some (show j < (iterL ST (state0 n st) k).2.2.length by omega)
      obtain ⟨hx0, hxn, hxr⟩ := hw2 x (List.mem_of_getElem? hx)
      rw [mid_succ hx]
      have hin : ∀ i, i ≤ (ST x.toNat).length → (inner (ST x.toNat) x (midN ST (iterL ST (state0 n st) k) j) i).1 = (iterL ST (state0 n st) k).1 ∧ (inner (ST x.toNat) x (midN ST (iterL ST (state0 n st) k) j) i).2.2 = [] := by
       intro i
       induction i with
       | zero => intro _; exact ⟨e1, e2⟩
       | succ i ih2 =>
        intro hi
        obtain ⟨f1, f2⟩ := ih2 (by omega)
        obtain ⟨s, hs⟩ := get_some (show i < (ST x.toNat).length by omega)
        have := hsat x.toNat (by omega) hxr s (List.mem_of_getElem? hs)
        rw [lgW, show ((x.toNat : Nat) : Int) = x by omega] at this
        rw [inner_succ hs, relax, f1, if_neg (by omega)]
        exact ⟨f1, f2⟩
      exact hin _ (Nat.le_refl _)
    have h1 := hall n (by omega)
    have : (iterL ST (state0 n st) n).2.2 = [] := by
     subst hk
     exact (hquiet _ (Nat.le_refl _)).2
    rw [this] at h1
    cases h1
 obtain ⟨k, hk⟩ := hsome
 have hW : longestF n ST st = some (iterL ST (state0 n st) k).1 := by rw [longestF, hk]; rfl
 have hkn := (firstN_some hk).1
 have hwn := (iter_w hp hg hn hst hsl k (by omega)).1
 obtain ⟨l1, l2, l3⟩ := longest_sat hg hst hW
 have hwalk : ∀ j v d, Wk ST (fun v => (v : Int) ∈ st) j v d → Rch (iterL ST (state0 n st) k).1 v ∧ d ≤ lgW (iterL ST (state0 n st) k).1 v := by
  intro j v d hw
  induction hw with
  | start v h =>
   have hv := hS v h
   have := l3 v hv h
   exact ⟨by rw [Rch]; omega, this⟩
  | step j v d s hw hs ih =>
   have hvn := wk_lt hg hS hw
   have hb := hg v s hs
   have := l2 v hvn ih.1 s hs
   have hlow := rch_low hg hwn hvn ih.1
   have e : lgW (iterL ST (state0 n st) k).1 s.1.toNat = (wAt (iterL ST (state0 n st) k).1 s.1).1 := by rw [lgW, show ((s.1.toNat : Nat) : Int) = s.1 by omega]
   rw [Rch, e]
   have hk2 : (4198400 * k : Nat) ≤ 8606720000 := by omega
   exact ⟨by omega, by omega⟩
 have hop : ∀ v : Nat, v < n → Rch (iterL ST (state0 n st) k).1 v → Opt ST (fun v => (v : Int) ∈ st) v (lgW (iterL ST (state0 n st) k).1 v) := fun v hv hr => by
  obtain ⟨j, _, hw⟩ := rch_of hwn hv hr
  exact ⟨⟨j, hw⟩, fun j d hw => (hwalk j v d hw).2⟩
 refine ⟨_, hW, invW_mono hwn (by omega), fun v d h => ?_, fun v hv hr => ⟨hop v hv hr, l2 v hv hr⟩⟩
 obtain ⟨j, hw⟩ := h.1
 obtain ⟨r1, r2⟩ := hwalk j v d hw
 exact ⟨r1, opt_eq (hop v (wk_lt hg hS hw) r1) h⟩
end search
end partY
end Go.Proofs.Ythbcmebhpabpnaa.Sx
namespace Go.Proofs.Ythbcmebhpabpnaa.Sx
open Go Go.PS Go.Proofs
section partZ

theorem mem_catN {α : Type} {g : Nat → List α} {x : α} : ∀ {n : Nat}, x ∈ catN g n ↔ ∃ k, k < n ∧ x ∈ g k := by
 intro n
 induction n with
 | zero => simp [catN]
 | succ n ih =>
  simp only [catN, List.mem_append, ih]
  constructor
  ·rintro (⟨k, hk, h⟩ | h)
   ·exact ⟨k, by omega, h⟩
   ·exact ⟨n, by omega, h⟩
  ·rintro ⟨k, hk, h⟩
   rcases Nat.lt_or_ge k n with h1 | h1
   ·exact .inl ⟨k, h1, h⟩
   ·have : k = n := by omega
    subst this; exact .inr h
theorem mem_steps {l : List Bd} {f : List Int} {v : Nat} {s : Stp} : s ∈ stepsL l f v ↔ ∃ (k : Nat) (b : Bd), l[k]? = some b ∧ ((b.1 = v ∧ s = (b.2.1, b.2.2.1, (k : Int), false)) ∨ (0 < at0 f k ∧ b.2.1 = v ∧ s = (b.1, -b.2.2.1, (k : Int), true))) := by
 rw [stepsL, stepsAt, mem_catN]
 constructor
 ·rintro ⟨k, hk, h⟩
  obtain ⟨b, hb⟩ := get_some hk
  refine ⟨k, b, hb, ?_⟩
  simp only [stepsOf, hb, List.mem_append] at h
  rcases h with h | h
  ·split at h
   ·rename_i h1; exact .inl ⟨h1, List.mem_singleton.1 h⟩
   ·simp at h
  ·split at h
   ·rename_i h1; exact .inr ⟨h1.1, h1.2, List.mem_singleton.1 h⟩
   ·simp at h
 ·rintro ⟨k, b, hb, h⟩
  refine ⟨k, (List.getElem?_eq_some_iff.1 hb).1, ?_⟩
  simp only [stepsOf, hb, List.mem_append]
  rcases h with ⟨h1, rfl⟩ | ⟨h1, h2, rfl⟩
  ·left; rw [if_pos h1]; simp
  ·right; rw [if_pos ⟨h1, h2⟩]; simp
def BdsOk (n : Nat) (l : List Bd) : Prop := ∀ (k : Nat) b, l[k]? = some b → 0 ≤ b.1 ∧ b.1 < (n : Int) ∧ 0 ≤ b.2.1 ∧ b.2.1 < (n : Int) ∧ b.1 ≠ b.2.1 ∧ -16777216 ≤ b.2.2.1 ∧ b.2.2.1 ≤ 16777216 ∧ 0 ≤ b.2.2.2 ∧ b.2.2.2 ≤ 8000
theorem bdsOk_of {n : Nat} {l : List Bd} (h : nOk ((n : Int), l) = true) : BdsOk n l ∧ n ≤ 2048 ∧ l.length ≤ 4096 := by
 obtain ⟨h1, h2, h3, h4⟩ := nOk_in h
 dsimp only at h1 h2 h3 h4
 exact ⟨h4, by omega, h3⟩
theorem steps_good {n : Nat} {l : List Bd} {f : List Int} (hb : BdsOk n l) : GoodN n (stepsL l f) := by
 intro v s hs
 obtain ⟨k, b, hk, h⟩ := mem_steps.1 hs
 have := hb k b hk
 rcases h with ⟨h1, rfl⟩ | ⟨h1, h2, rfl⟩ <;> dsimp only <;> omega
def PotB (l : List Bd) (f : List Int) (p : Nat → Int) : Prop := ∀ (k : Nat) b, l[k]? = some b → p b.1.toNat + b.2.2.1 ≤ p b.2.1.toNat ∧ (0 < at0 f k → p b.2.1.toNat ≤ p b.1.toNat + b.2.2.1)
theorem pot_iff {n : Nat} {l : List Bd} {f : List Int} {p : Nat → Int} (hb : BdsOk n l) : Pot (stepsL l f) p ↔ PotB l f p := by
 constructor
 ·intro h k b hk
  have hbk := hb k b hk
  refine ⟨h b.1.toNat (b.2.1, b.2.2.1, (k : Int), false) (mem_steps.2 ⟨k, b, hk, .inl ⟨by omega, rfl⟩⟩), fun hf => ?_⟩
  have := h b.2.1.toNat (b.1, -b.2.2.1, (k : Int), true) (mem_steps.2 ⟨k, b, hk, .inr ⟨hf, by omega, rfl⟩⟩)
  dsimp only at this; omega
 ·intro h v s hs
  obtain ⟨k, b, hk, h1⟩ := mem_steps.1 hs
  have hbk := hb k b hk
  obtain ⟨e1, e2⟩ := h k b hk
  rcases h1 with ⟨h1, rfl⟩ | ⟨h1, h2, rfl⟩
  ·dsimp only; rw [show v = b.1.toNat by omega]; exact e1
  ·have := e2 h1
   dsimp only; rw [show v = b.2.1.toNat by omega]; omega
abbrev AllS (n : Nat) : Nat → Prop := fun v => (v : Int) ∈ allI n
theorem mem_allI {n v : Nat} : (v : Int) ∈ allI n ↔ v < n := by
 rw [allI, List.mem_map]
 constructor
 ·rintro ⟨u, hu, h⟩
  have := List.mem_range.1 hu
  omega
 ·intro h; exact ⟨v, List.mem_range.2 h, rfl⟩
theorem long_of_pot {n : Nat} {l : List Bd} {f : List Int} {p : Nat → Int} (hb : BdsOk n l) (hn : n ≤ 2048) (hp : Pot (stepsL l f) p) :
  ∃ W, longestF n (stepsL l f) (allI n) = some W ∧ W.length = n ∧ ∀ v, v < n → Opt (stepsL l f) (AllS n) v (lgW W v) := by
 obtain ⟨a1, a2⟩ := allI_in n
 obtain ⟨W, h1, h2, h3, h4⟩ := search_ok hp (steps_good hb) hn a1 (by omega)
 refine ⟨W, h1, h2.len, fun v hv => (h4 v hv ?_).1⟩
 have := (h2.starts v (mem_allI.2 hv)).2
 rw [Rch]; omega
theorem opt_bd {n : Nat} {l : List Bd} {f : List Int} (hb : BdsOk n l) {v : Nat} {d : Int} (h : Opt (stepsL l f) (AllS n) v d) : 0 ≤ d ∧ d ≤ 16777216 * (n : Int) := by
 have hS : ∀ v : Nat, AllS n v → v < n := fun v hv => mem_allI.1 hv
 obtain ⟨k, hk, hw⟩ := opt_short (steps_good hb) hS h
 have h1 := wk_bd (steps_good hb) hw
 have h2 := h.2 0 0 (.start v (mem_allI.2 (wk_lt (steps_good hb) hS hw)))
 omega

/-! ### The reference's least ranks. -/
end partZ
section partZa

theorem sumI_congr {g h : Nat → Int} : ∀ {n : Nat}, (∀ v, v < n → g v = h v) → sumI g n = sumI h n
 | 0, _ => rfl
 | n + 1, e => by rw [sumI_succ, sumI_succ, e n (by omega), sumI_congr fun v hv => e v (by omega)]
theorem sumI_add (g h : Nat → Int) : ∀ n, sumI (fun v => g v + h v) n = sumI g n + sumI h n
 | 0 => rfl
 | n + 1 => by rw [sumI_succ, sumI_succ, sumI_succ, sumI_add g h n]; omega
theorem sumI_neg (g : Nat → Int) : ∀ n, sumI (fun v => -(g v)) n = -(sumI g n)
 | 0 => rfl
 | n + 1 => by rw [sumI_succ, sumI_succ, sumI_neg g n]; omega
theorem sumI_zero : ∀ n, sumI (fun _ => 0) n = 0
 | 0 => rfl
 | n + 1 => by rw [sumI_succ, sumI_zero n]; rfl
theorem sumI_delta (i : Nat) (x : Int) : ∀ n, sumI (fun v => if i = v then x else 0) n = if i < n then x else 0
 | 0 => by simp [sumI]
 | n + 1 => by
  rw [sumI_succ, sumI_delta i x n]
  by_cases h : i = n
  ·rw [if_neg (by omega), if_pos h, if_pos (by omega)]; omega
  ·rw [if_neg h]
   by_cases h2 : i < n
   ·rw [if_pos h2, if_pos (by omega)]; omega
   ·rw [if_neg h2, if_neg (by omega)]; omega
theorem sumI_mono {g h : Nat → Int} : ∀ {n : Nat}, (∀ v, v < n → g v ≤ h v) → sumI g n ≤ sumI h n
 | 0, _ => Int.le_refl _
 | n + 1, e => by
  rw [sumI_succ, sumI_succ]
  have := sumI_mono (n := n) fun v hv => e v (by omega)
  have := e n (by omega)
  omega
theorem sumI_lt {g h : Nat → Int} {i : Nat} : ∀ {n : Nat}, (∀ v, v < n → g v ≤ h v) → i < n → g i < h i → sumI g n < sumI h n
 | 0, _, hi, _ => by omega
 | n + 1, e, hi, hl => by
  rw [sumI_succ, sumI_succ]
  rcases Nat.lt_or_ge i n with h1 | h1
  ·have := sumI_lt (n := n) (fun v hv => e v (by omega)) h1 hl
   have := e n (by omega)
   omega
  ·have : i = n := by omega
   subst this
   have := sumI_mono (n := i) fun v hv => e v (by omega)
   omega
theorem sumI_one {g h : Nat → Int} {n i : Nat} {x : Int} (hi : i < n) (e : ∀ v, v < n → h v = g v + if i = v then x else 0) : sumI h n = sumI g n + x := by
 rw [sumI_congr e, sumI_add, sumI_delta, if_pos hi]
abbrev divF (l : List Bd) (f : List Int) (v : Int) : Int := sumI (addAt l f v) l.length
def cutAt (l : List Bd) (f : List Int) (R : Nat → Bool) (k : Nat) : Int := match l[k]? with | some b => (if R b.2.1.toNat then at0 f k - b.2.2.2 else 0) - (if R b.1.toNat then at0 f k - b.2.2.2 else 0) | none => 0
theorem set_sum {n : Nat} {l : List Bd} {f : List Int} (hb : BdsOk n l) (hfl : f.length = l.length) (R : Nat → Bool) : ∀ m, m ≤ l.length →
  sumI (fun v => if R v then sumI (addAt l f v) m else 0) n = sumI (cutAt l f R) m := by
 intro m
 induction m with
 | zero => intro _; simp only [sumI]; rw [sumI_congr (h := fun _ => 0) (fun v _ => by split <;> rfl), sumI_zero]
 | succ m ih =>
  intro hm
  obtain ⟨b, hbm⟩ := get_some (show m < l.length by omega)
  obtain ⟨x, hx⟩ := get_some (show m < f.length by omega)
  have hbb := hb m b hbm
  have hx0 : at0 f m = x := by rw [at0, Int.toNat_natCast, hx]; rfl
  rw [sumI_succ, ← ih (by omega), cutAt, hbm]
  dsimp only
  have e : ∀ v, v < n → (if R v then sumI (addAt l f v) (m + 1) else 0) = (if R v then sumI (addAt l f v) m else 0) + ((if b.2.1.toNat = v then (if R b.2.1.toNat then x - b.2.2.2 else 0) else 0) + -(if b.1.toNat = v then (if R b.1.toNat then x - b.2.2.2 else 0) else 0)) := by
   intro v hv
   have ea : addAt l f v m = (if b.2.1 = (v : Int) then x - b.2.2.2 else 0) - (if b.1 = (v : Int) then x - b.2.2.2 else 0) := by simp [addAt, hbm, hx]
   rw [sumI_succ, ea]
   by_cases c1 : b.2.1.toNat = v
   ·have c2 : ¬ b.1.toNat = v := by omega
    rw [if_pos c1, if_neg c2, if_pos (show b.2.1 = (v : Int) by omega), if_neg (show ¬ b.1 = (v : Int) by omega), c1]
    split <;> omega
   ·rw [if_neg c1, if_neg (show ¬ b.2.1 = (v : Int) by omega)]
    by_cases c2 : b.1.toNat = v
    ·rw [if_pos c2, if_pos (show b.1 = (v : Int) by omega), c2]
     split <;> omega
    ·rw [if_neg c2, if_neg (show ¬ b.1 = (v : Int) by omega)]
     split <;> omega
  rw [sumI_congr e, sumI_add, sumI_add, sumI_neg, sumI_delta, sumI_delta, if_pos (show b.2.1.toNat < n by omega), if_pos (show b.1.toNat < n by omega), hx0]
  omega
theorem div_set {l : List Bd} {f : List Int} {i : Nat} {b : Bd} {x v : Int} (hfl : f.length = l.length) (hb : l[i]? = some b) :
  divF l (f.set i (at0 f i + x)) v = divF l f v + ((if b.2.1 = v then x else 0) - (if b.1 = v then x else 0)) := by
 have hil := (List.getElem?_eq_some_iff.1 hb).1
 obtain ⟨y, hy⟩ := get_some (show i < f.length by omega)
 have hy0 : at0 f i = y := by rw [at0, Int.toNat_natCast, hy]; rfl
 refine sumI_one (i := i) hil fun k hk => ?_
 obtain ⟨c, hc⟩ := get_some hk
 obtain ⟨z, hz⟩ := get_some (show k < f.length by omega)
 by_cases h : i = k
 ·subst h
  rw [hb] at hc; cases hc
  have e1 : (f.set i (at0 f i + x))[i]? = some (y + x) := by rw [List.getElem?_set_self (by omega), hy0]
  simp only [addAt, hb, hy, e1, if_true]
  split <;> split <;> omega
 ·have e1 : (f.set i (at0 f i + x))[k]? = some z := by rw [List.getElem?_set_ne h, hz]
  simp only [addAt, hc, hz, e1]
  rw [if_neg h, Int.add_zero]
/-! ### The choice of where to send. -/
theorem pick_ok (W : List Way) (nd : List Int) : ∀ k, (pickN W nd k < 0 → ∀ u, u < k → ¬ (0 < at0 nd u ∧ -576460752303423488 < lgW W u)) ∧ (0 ≤ pickN W nd k → 0 < at0 nd (pickN W nd k) ∧ -576460752303423488 < (wAt W (pickN W nd k)).1) := by
 intro k
 induction k with
 | zero => exact ⟨fun _ u hu => by omega, fun h => by simp [pickN] at h⟩
 | succ k ih =>
  rw [pickN]
  split
  ·rename_i h
   exact ⟨fun h => by omega, fun _ => ⟨h.1, h.2.1⟩⟩
  ·rename_i h
   refine ⟨fun hn u hu hc => ?_, ih.2⟩
   rcases Nat.lt_or_ge u k with h1 | h1
   ·exact ih.1 hn u h1 hc
   ·have : u = k := by omega
    subst this
    exact h ⟨hc.1, hc.2, .inl hn⟩
theorem mem_negs {nd : List Int} {v : Nat} : ∀ {n : Nat}, (v : Int) ∈ negs nd n ↔ v < n ∧ at0 nd v < 0 := by
 intro n
 rw [negs, mem_catN]
 constructor
 ·rintro ⟨k, hk, h⟩
  rw [negAt] at h
  split at h
  ·rename_i hn
   have := List.mem_singleton.1 h
   have : v = k := by omega
   subst this; exact ⟨hk, hn⟩
  ·simp at h
 ·rintro ⟨h1, h2⟩
  exact ⟨v, h1, by rw [negAt, if_pos h2]; simp⟩
theorem firstN_of {q : Nat → Bool} {k m : Nat} (hk : k < m) (h1 : ∀ j, j < k → q j = false) (h2 : q k = true) : firstN q m = some k := by
 refine firstN_at hk ?_ h2
 have : ∀ i, i ≤ k → firstN q i = none := by
  intro i
  induction i with
  | zero => intro _; rfl
  | succ i ih => intro hi; exact firstN_succ (ih (by omega)) (h1 i (by omega))
 exact this k (Nat.le_refl _)
theorem most_le (W : List Way) (f : List Int) (m0 v : Int) : ∀ k, mostN W f m0 v k ≤ m0 ∧ ∀ j, j < k → (stepN W v j).2.2.2 = true → mostN W f m0 v k ≤ at0 f (stepN W v j).2.2.1 := by
 intro k
 induction k with
 | zero => exact ⟨Int.le_refl _, fun j hj => by omega⟩
 | succ k ih =>
  rw [mostN_succ]
  refine ⟨?_, fun j hj hb => ?_⟩
  ·split <;> omega
  ·rcases Nat.lt_or_ge j k with h1 | h1
   ·have := ih.2 j h1 hb
    split <;> omega
   ·have : j = k := by omega
    subst this
    rw [if_pos hb]; omega
theorem most_pos {W : List Way} {f : List Int} {m0 v : Int} (h0 : 0 < m0) : ∀ k, (∀ j, j < k → (stepN W v j).2.2.2 = true → 0 < at0 f (stepN W v j).2.2.1) → 0 < mostN W f m0 v k := by
 intro k
 induction k with
 | zero => intro _; exact h0
 | succ k ih =>
  intro h
  rw [mostN_succ]
  have := ih fun j hj => h j (by omega)
  split
  ·rename_i hb; have := h k (by omega) hb; omega
  ·exact this
/-! ### What is sent. -/
section sent
variable {n K : Nat} {l : List Bd} {f : List Int} {W : List Way} {t m : Int}
structure ChainOk (n : Nat) (l : List Bd) (f : List Int) (W : List Way) (t : Int) (K : Nat) : Prop where
 step : ∀ j, j < K → ∃ (k : Nat) (b : Bd), l[k]? = some b ∧ (stepN W t j).2.2.1 = k ∧ (((stepN W t j).2.2.2 = false ∧ b.1 = backN W t (j + 1) ∧ b.2.1 = backN W t j) ∨ ((stepN W t j).2.2.2 = true ∧ 0 < at0 f k ∧ b.2.1 = backN W t (j + 1) ∧ b.1 = backN W t j))
 inj : ∀ i j, i < j → j ≤ K → backN W t i ≠ backN W t j
variable (hc : ChainOk n l f W t K) (hfl : f.length = l.length)
include hc hfl
theorem sent_set {k : Nat} (hk : k < K) (b : Nat) : at0 (sentN W f m t (k + 1)) b = at0 (sentN W f m t k) b + (if (stepN W t k).2.2.1 = b then (if (stepN W t k).2.2.2 then -m else m) else 0) := by
 obtain ⟨i, bd, hi, he, _⟩ := hc.step k hk
 have hil := (List.getElem?_eq_some_iff.1 hi).1
 rw [sentN_succ, he, Int.toNat_natCast, at0_set _ _ _ _ (by omega)]
 by_cases h : i = b
 ·subst h
  rw [if_pos ⟨rfl, by rw [sentN_len, hfl]; exact hil⟩, if_pos rfl]
 ·rw [if_neg (by omega), if_neg (by omega), Int.add_zero]
theorem sent_low (hm : 0 ≤ m) : ∀ k, k ≤ K → ∀ b : Nat, ((∀ j, j < k → ¬ ((stepN W t j).2.2.2 = true ∧ (stepN W t j).2.2.1 = b)) → at0 f b ≤ at0 (sentN W f m t k) b) ∧ at0 f b - m ≤ at0 (sentN W f m t k) b := by
 intro k
 induction k with
 | zero => intro _ b; exact ⟨fun _ => Int.le_refl _, by show at0 f b - m ≤ at0 f b; omega⟩
 | succ k ih =>
  intro hk b
  obtain ⟨i1, i2⟩ := ih (by omega) b
  rw [sent_set hc hfl (by omega)]
  refine ⟨fun h => ?_, ?_⟩
  ·have := i1 fun j hj => h j (by omega)
   split
   ·rename_i he
    split
    ·rename_i hb; exact absurd ⟨hb, he⟩ (h k (by omega))
    ·omega
   ·omega
  ·split
   ·rename_i he
    split
    ·rename_i hb
     have : at0 f b ≤ at0 (sentN W f m t k) b := i1 fun j hj ⟨hbj, hej⟩ => by
      obtain ⟨x, bx, hx, ex, hxx⟩ := hc.step j (by omega)
      obtain ⟨y, by_, hy, ey, hyy⟩ := hc.step k (by omega)
      have : x = y := by omega
      subst this
      rw [hx] at hy; cases hy
      rcases hxx with ⟨h1, _⟩ | ⟨_, _, _, h1⟩
      ·rw [h1] at hbj; cases hbj
      ·rcases hyy with ⟨h2, _⟩ | ⟨_, _, _, h2⟩
       ·rw [h2] at hb; cases hb
       ·exact hc.inj j k hj (by omega) (by rw [← h1, ← h2])
     omega
    ·omega
   ·omega
theorem sent_up (hm : 0 ≤ m) : ∀ k, k ≤ K → ∀ b : Nat, ((∀ j, j < k → ¬ ((stepN W t j).2.2.2 = false ∧ (stepN W t j).2.2.1 = b)) → at0 (sentN W f m t k) b ≤ at0 f b) ∧ at0 (sentN W f m t k) b ≤ at0 f b + m := by
 intro k
 induction k with
 | zero => intro _ b; exact ⟨fun _ => Int.le_refl _, by show at0 f b ≤ at0 f b + m; omega⟩
 | succ k ih =>
  intro hk b
  obtain ⟨i1, i2⟩ := ih (by omega) b
  rw [sent_set hc hfl (by omega)]
  refine ⟨fun h => ?_, ?_⟩
  ·have := i1 fun j hj => h j (by omega)
   split
   ·rename_i he
    split
    ·omega
    ·rename_i hb; exact absurd ⟨by simpa using hb, he⟩ (h k (by omega))
   ·omega
  ·split
   ·rename_i he
    split
    ·omega
    ·rename_i hb
     have hb : (stepN W t k).2.2.2 = false := by simpa using hb
     have : at0 (sentN W f m t k) b ≤ at0 f b := i1 fun j hj ⟨hbj, hej⟩ => by
      obtain ⟨x, bx, hx, ex, hxx⟩ := hc.step j (by omega)
      obtain ⟨y, by_, hy, ey, hyy⟩ := hc.step k (by omega)
      have : x = y := by omega
      subst this
      rw [hx] at hy; cases hy
      rcases hxx with ⟨_, _, h1⟩ | ⟨h1, _⟩
      ·rcases hyy with ⟨_, _, h2⟩ | ⟨h2, _⟩
       ·exact hc.inj j k hj (by omega) (by rw [← h1, ← h2])
       ·rw [h2] at hb; cases hb
      ·rw [h1] at hbj; cases hbj
     omega
   ·omega
theorem sent_div (v : Int) : ∀ k, k ≤ K → divF l (sentN W f m t k) v = divF l f v + ((if t = v then m else 0) - (if backN W t k = v then m else 0)) := by
 intro k
 induction k with
 | zero => intro _; show divF l f v = divF l f v + ((if t = v then m else 0) - (if t = v then m else 0)); omega
 | succ k ih =>
  intro hk
  obtain ⟨i, b, hi, he, h⟩ := hc.step k (by omega)
  rw [sentN_succ, he, Int.toNat_natCast, div_set (by rw [sentN_len, hfl]) hi, ih (by omega)]
  rcases h with ⟨h1, h2, h3⟩ | ⟨h1, _, h2, h3⟩
  ·rw [show (if (stepN W t k).2.2.2 = true then -m else m) = m by rw [h1]; rfl, h2, h3]; omega
  ·rw [show (if (stepN W t k).2.2.2 = true then -m else m) = -m by rw [h1]; rfl, h2, h3]
   split <;> split <;> split <;> omega
end sent
end partZa
section partZb

instance rchDec (W : List Way) (v : Nat) : Decidable (Rch W v) := inferInstanceAs (Decidable (lgW W v ≠ -1152921504606846976))
theorem pot_low (p : Nat → Int) : ∀ m : Nat, ∃ lo : Int, ∀ v : Nat, v < m → lo ≤ p v := by
 intro m
 induction m with
 | zero => exact ⟨0, fun v hv => by omega⟩
 | succ m ih =>
  obtain ⟨lo, h⟩ := ih
  refine ⟨min lo (p m), fun v hv => ?_⟩
  rcases Nat.lt_or_ge v m with h1 | h1
  ·have := h v h1; omega
  ·have : v = m := by omega
   subst this; omega
theorem pot_high (p : Nat → Int) : ∀ m : Nat, ∃ hi : Int, ∀ v : Nat, v < m → p v ≤ hi := by
 intro m
 obtain ⟨lo, h⟩ := pot_low (fun v => -(p v)) m
 exact ⟨-lo, fun v hv => by have := h v hv; omega⟩
def posSum (nd : List Int) (n : Nat) : Int := sumI (fun v => max 0 (at0 nd v)) n
theorem posSum_nonneg (nd : List Int) (n : Nat) : 0 ≤ posSum nd n := by
 have := sumI_mono (g := fun _ => 0) (h := fun v : Nat => max 0 (at0 nd v)) (n := n) fun v _ => by omega
 rwa [sumI_zero] at this
structure Cert (n : Nat) (l : List Bd) (T : Int) (f nd : List Int) : Prop where
 fl : f.length = l.length
 nl : nd.length = n
 pos : ∀ k : Nat, 0 ≤ at0 f k
 pot : ∃ p, Pot (stepsL l f) p
 dv : ∀ v : Nat, v < n → at0 nd v = -(divF l f v)
 low : ∀ v : Nat, v < n → -T ≤ at0 nd v ∧ at0 nd v ≤ T
 cap : ∀ k : Nat, at0 f k + posSum nd n ≤ T
theorem inB_of {f : List Int} {T : Int} (hT : T ≤ 1125899906842624) (h : ∀ k : Nat, k < f.length → -T ≤ at0 f k ∧ at0 f k ≤ T) : inB f = true := by
 simp only [inB, List.all_eq_true, decide_eq_true_eq]
 intro x hx
 obtain ⟨k, hk⟩ := List.getElem?_of_mem hx
 have hkl := (List.getElem?_eq_some_iff.1 hk).1
 have := h k hkl
 have e : at0 f k = x := by rw [at0, Int.toNat_natCast, hk]; rfl
 omega
theorem cert_round {n : Nat} {l : List Bd} {T : Int} {f nd : List Int} (hb : BdsOk n l) (hn : n ≤ 2048) (hT : T ≤ 1125899906842624) (h : Cert n l T f nd) (hneg : ∃ s : Nat, s < n ∧ at0 nd s < 0) :
  ∃ f' nd', certStep n l f nd = some (f', nd') ∧ Cert n l T f' nd' ∧ posSum nd' n < posSum nd n := by
 obtain ⟨p, hp⟩ := h.pot
 have hg := steps_good (f := f) hb
 obtain ⟨n1, n2⟩ := negs_in nd n
 obtain ⟨W, hW, hI, hO1, hO2⟩ := search_ok hp hg hn n1 n2
 have hS : ∀ v : Nat, (v : Int) ∈ negs nd n → v < n := fun v hv => (mem_negs.1 hv).1
 obtain ⟨lo, hlo⟩ := pot_low p n
 have hlo' : ∀ v : Nat, (v : Int) ∈ negs nd n → lo ≤ p v := fun v hv => hlo v (hS v hv)
 have hlow : ∀ v : Nat, v < n → Rch W v → -34359738368 ≤ lgW W v := by
  intro v hv hr
  obtain ⟨k, hk, hw⟩ := opt_short hg hS (hO2 v hv hr).1
  have := wk_bd hg hw
  omega
 have hrs : ∀ v : Nat, v < n → Rch W v → ∀ s ∈ stepsL l f v, Rch W s.1.toNat := by
  intro v hv hr s hs
  obtain ⟨⟨j, hw⟩, _⟩ := (hO2 v hv hr).1
  obtain ⟨d, hd⟩ := opt_ex hp hlo' (Wk.step j v _ s hw hs)
  exact (hO1 _ _ hd).1
 have hstart : ∀ v : Nat, v < n → at0 nd v < 0 → Rch W v := by
  intro v hv hx
  have := (hI.starts v (mem_negs.2 ⟨hv, hx⟩)).2
  rw [Rch]; omega
 -- bounds that lead out of or into what is reached
 have hout : ∀ (k : Nat) b, l[k]? = some b → Rch W b.1.toNat → Rch W b.2.1.toNat ∧ lgW W b.1.toNat + b.2.2.1 ≤ lgW W b.2.1.toNat := by
  intro k b hk hr
  have hbb := hb k b hk
  have hm : ((b.2.1, b.2.2.1, (k : Int), false) : Stp) ∈ stepsL l f b.1.toNat := mem_steps.2 ⟨k, b, hk, .inl ⟨by omega, rfl⟩⟩
  have h1 := hrs b.1.toNat (by omega) hr _ hm
  have h2 := (hO2 b.1.toNat (by omega) hr).2 _ hm
  dsimp only at h1 h2
  refine ⟨h1, ?_⟩
  rw [lgW, lgW, show ((b.2.1.toNat : Nat) : Int) = b.2.1 by omega]; exact h2
 have hinn : ∀ (k : Nat) b, l[k]? = some b → 0 < at0 f k → Rch W b.2.1.toNat → Rch W b.1.toNat ∧ lgW W b.2.1.toNat ≤ lgW W b.1.toNat + b.2.2.1 := by
  intro k b hk hf hr
  have hbb := hb k b hk
  have hm : ((b.1, -b.2.2.1, (k : Int), true) : Stp) ∈ stepsL l f b.2.1.toNat := mem_steps.2 ⟨k, b, hk, .inr ⟨hf, by omega, rfl⟩⟩
  have h1 := hrs b.2.1.toNat (by omega) hr _ hm
  have h2 := (hO2 b.2.1.toNat (by omega) hr).2 _ hm
  dsimp only at h1 h2
  refine ⟨h1, ?_⟩
  rw [lgW, show lgW W b.1.toNat = (wAt W b.1).1 by rw [lgW, show ((b.1.toNat : Nat) : Int) = b.1 by omega]]
  rw [lgW] at h2; omega
 -- someone who was reached needs more
 have hneed : ∃ u : Nat, u < n ∧ Rch W u ∧ 0 < at0 nd u := by
  refine Classical.byContradiction fun hno => ?_
  have hle : ∀ v : Nat, v < n → Rch W v → at0 nd v ≤ 0 := fun v hv hr => by
   rcases Int.lt_or_le 0 (at0 nd v) with h1 | h1
   ·exact absurd ⟨v, hv, hr, h1⟩ hno
   ·exact h1
  obtain ⟨s, hs, hs0⟩ := hneg
  have hA := set_sum hb h.fl (fun v => decide (Rch W v)) l.length (Nat.le_refl _)
  have h1 : sumI (cutAt l f (fun v => decide (Rch W v))) l.length ≤ 0 := by
   have := sumI_mono (g := cutAt l f (fun v => decide (Rch W v))) (h := fun _ => 0) (n := l.length) fun k hk => by
    obtain ⟨b, hbk⟩ := get_some hk
    have hbb := hb k b hbk
    simp only [cutAt, hbk, decide_eq_true_eq]
    have := h.pos k
    by_cases c1 : Rch W b.1.toNat
    ·rw [if_pos c1, if_pos (hout k b hbk c1).1]; omega
    ·rw [if_neg c1]
     by_cases c2 : Rch W b.2.1.toNat
     ·rw [if_pos c2]
      have : ¬ 0 < at0 f k := fun hf => c1 (hinn k b hbk hf c2).1
      omega
     ·rw [if_neg c2]; omega
   rwa [sumI_zero] at this
  have h2 : 0 < sumI (fun v => if decide (Rch W v) = true then sumI (addAt l f v) l.length else 0) n := by
   have := sumI_lt (g := fun _ => 0) (h := fun v : Nat => if decide (Rch W v) = true then sumI (addAt l f v) l.length else 0) (i := s) (n := n) (fun v hv => by
    simp only [decide_eq_true_eq]
    split
    ·rename_i hr
     have := h.dv v hv
     have := hle v hv hr
     simp only [divF] at *; omega
    ·exact Int.le_refl _) hs (by
    have hr := hstart s hs hs0
    have := h.dv s hs
    rw [if_pos (decide_eq_true hr)]
    simp only [divF] at this; omega)
   rwa [sumI_zero] at this
  omega
 obtain ⟨u, hu, hur, hu0⟩ := hneed
 have hpk := pick_in W nd n
 obtain ⟨pk1, pk2⟩ := pick_ok W nd n
 have ht0 : 0 ≤ pickN W nd n := by
  rcases Int.lt_or_le (pickN W nd n) 0 with h1 | h1
  ·exact absurd ⟨hu0, by have := hlow u hu hur; omega⟩ (pk1 h1 u hu)
  ·exact h1
 obtain ⟨hnt, hlt⟩ := pk2 ht0
 obtain ⟨t, htt⟩ : ∃ t : Nat, pickN W nd n = t := ⟨(pickN W nd n).toNat, by omega⟩
 rw [htt] at hnt hlt
 have htn : t < n := by omega
 have htr : Rch W t := by rw [Rch, lgW]; omega
 obtain ⟨K, hK⟩ := hI.chain t htn htr
 have hcp := chain_pot hp hI htn htr hK.2
 have hinj := stop_inj hK
 have hKn : K + 1 ≤ n := inj_le (g := fun i => (backN W t i).toNat) (fun i hi => by
  obtain ⟨x, hx, hxn, _⟩ := hcp i (by omega)
  show (backN W t i).toNat < n
  rw [hx]; omega) (fun i j hij hj he => by
  obtain ⟨x, hx, _⟩ := hcp i (by omega)
  obtain ⟨y, hy, _⟩ := hcp j (by omega)
  refine hinj i j hij (by omega) ?_
  have he : (backN W t i).toNat = (backN W t j).toNat := he
  rw [hx, hy] at he ⊢; omega)
 have hstop : stopN W t (n + 1) = some K := firstN_of (by omega) hK.2 hK.1
 -- the chain's steps
 have hlink : ∀ j, j < K → ∃ x v : Nat, backN W t j = v ∧ backN W t (j + 1) = x ∧ x < n ∧ v < n ∧ Rch W x ∧ Rch W v ∧ stepN W t j ∈ stepsL l f x ∧ (stepN W t j).1 = v ∧ lgW W v ≤ lgW W x + (stepN W t j).2.1 := by
  intro j hj
  obtain ⟨v, hv, hvn, hvr, _⟩ := hcp j (by omega)
  have hbg := hK.2 j hj
  rw [hv] at hbg
  rcases hI.par v hvn hvr with ⟨h1, _⟩ | ⟨x, hx, hxr, h1, h2, h3, _, h5⟩
  ·rw [bgW, h1] at hbg; cases hbg
  ·exact ⟨x, v, hv, by rw [backN_succ, hv]; exact h1, hx, hvn, hxr, hvr, by rw [stepN, hv]; exact h2, by rw [stepN, hv]; exact h3, by rw [stepN, hv]; exact h5⟩
 have hco : ChainOk n l f W t K := by
  refine ⟨fun j hj => ?_, fun i j hij hj => hinj i j hij hj⟩
  obtain ⟨x, v, hv, hx, hxn, hvn, hxr, hvr, h1, h2, h3⟩ := hlink j hj
  obtain ⟨k, b, hk, h4⟩ := mem_steps.1 h1
  refine ⟨k, b, hk, ?_⟩
  rcases h4 with ⟨h4, h5⟩ | ⟨h4, h5, h6⟩
  ·rw [h5] at h2 ⊢
   exact ⟨rfl, .inl ⟨rfl, by rw [hx]; exact h4, by rw [hv]; exact h2⟩⟩
  ·rw [h6] at h2 ⊢
   exact ⟨rfl, .inr ⟨rfl, h4, by rw [hx]; exact h5, by rw [hv]; exact h2⟩⟩
 obtain ⟨s, hs, hsn, hsr, _⟩ := hcp K (Nat.le_refl _)
 have hsneg : at0 nd s < 0 := by
  have hbg := hK.1
  rw [hs] at hbg
  rcases hI.par s hsn hsr with ⟨_, h2⟩ | ⟨_, _, _, _, _, _, h4, _⟩
  ·exact (mem_negs.1 h2).2
  ·rw [hbg] at h4; cases h4
 have hst : s ≠ t := fun he => by rw [he] at hsneg; omega
 -- how much is sent
 have hml := most_le W f (at0 nd t) t K
 have hmp : 0 < mostN W f (at0 nd t) t K := most_pos hnt K fun j hj hbk => by
  obtain ⟨k, b, _, he, hh⟩ := hco.step j hj
  rcases hh with ⟨h1, _⟩ | ⟨_, h1, _⟩
  ·rw [h1] at hbk; cases hbk
  ·rw [he]; exact h1
 have hsm := sendM_eq W f nd t K
 rw [hs] at hsm
 generalize hmdef : sendM W f nd t K = m at hsm
 have hm0 : 0 < m := by omega
 have hmt : m ≤ at0 nd t := by omega
 have hms : m ≤ -(at0 nd s) := by omega
 have hmb : ∀ j, j < K → (stepN W t j).2.2.2 = true → m ≤ at0 f (stepN W t j).2.2.1 := fun j hj hbk => by have := hml.2 j hj hbk; omega
 have hsl := sent_low hco h.fl (Int.le_of_lt hm0) K (Nat.le_refl _)
 have hsu := sent_up hco h.fl (Int.le_of_lt hm0) K (Nat.le_refl _)
 have hsd := fun v : Int => sent_div (m := m) hco h.fl v K (Nat.le_refl _)
 have hps := posSum_nonneg nd n
 have hfin : ∀ k : Nat, k < f.length → -T ≤ at0 f k ∧ at0 f k ≤ T := fun k _ => by have := h.pos k; have := h.cap k; omega
 have hl0 : 0 < l.length := by
  rcases Nat.eq_zero_or_pos l.length with h0 | h0
  ·have := h.dv t htn
   simp only [divF, h0, sumI] at this
   omega
  ·exact h0
 have hwo : waysOk n l.length W = true := by
  simp only [waysOk, Bool.and_eq_true, decide_eq_true_eq, List.all_eq_true]
  refine ⟨hI.len, fun w hw => ?_⟩
  obtain ⟨i, hi⟩ := List.getElem?_of_mem hw
  have hin : i < n := by have := (List.getElem?_eq_some_iff.1 hi).1; rw [hI.len] at this; exact this
  have hwi : wAt W (i : Int) = w := by rw [wAt, Int.toNat_natCast, hi]; rfl
  rcases hI.sound i hin with h1 | ⟨h1, _⟩
  ·rw [← hwi, h1]; simp [wayN]; omega
  ·rcases hI.par i hin h1 with ⟨h2, _⟩ | ⟨x, hx, _, h2, h3, _⟩
   ·rw [← hwi, h2]; simp [wayB]; omega
   ·rw [hwi] at h2 h3
    obtain ⟨k, b, hk, h4⟩ := mem_steps.1 h3
    have hkl := (List.getElem?_eq_some_iff.1 hk).1
    rcases h4 with ⟨_, h5⟩ | ⟨_, _, h5⟩ <;> (rw [h5, h2]; dsimp only; omega)
 have hcond : (decide (0 ≤ pickN W nd n) && waysOk n l.length W && inB f && inB nd) = true := by
  rw [hwo, inB_of hT hfin, inB_of hT (fun k hk => h.low k (by rw [← h.nl]; exact hk)), decide_eq_true ht0]; rfl
 have hat : ∀ v : Nat, v < n → at0 ((nd.set s (at0 nd s + m)).set t (at0 (nd.set s (at0 nd s + m)) t - m)) v = at0 nd v + ((if s = v then m else 0) - (if t = v then m else 0)) := by
  intro v hv
  have e1 : ∀ v : Nat, at0 (nd.set s (at0 nd s + m)) v = if v = s then at0 nd s + m else at0 nd v := fun v => by
   rw [at0_set _ _ _ _ (by omega)]
   by_cases h1 : v = s
   ·rw [if_pos ⟨by omega, by rw [h.nl]; exact hsn⟩, if_pos h1]
   ·rw [if_neg (by omega), if_neg h1]
  rw [at0_set _ _ _ _ (by omega), e1 t, if_neg (show ¬ t = s from fun he => hst he.symm)]
  by_cases h1 : v = t
  ·subst h1
   rw [if_pos ⟨rfl, by rw [List.length_set, h.nl]; exact hv⟩, if_neg hst, if_pos rfl]; omega
  ·rw [if_neg (by omega), e1 v, if_neg (show ¬ t = v from fun he => h1 he.symm)]
   by_cases h2 : v = s
   ·subst h2; rw [if_pos rfl, if_pos rfl]; omega
   ·rw [if_neg h2, if_neg (fun he => h2 he.symm)]; omega
 have hps' : posSum ((nd.set s (at0 nd s + m)).set t (at0 (nd.set s (at0 nd s + m)) t - m)) n = posSum nd n + -m := by
  refine sumI_one (i := t) htn fun v hv => ?_
  rw [hat v hv]
  by_cases h1 : t = v
  ·subst h1; rw [if_pos rfl, if_neg hst, if_pos rfl]; omega
  ·rw [if_neg h1, if_neg h1]
   by_cases h2 : s = v
   ·subst h2; rw [if_pos rfl]; omega
   ·rw [if_neg h2]; omega
 refine ⟨sentN W f m t K, (nd.set s (at0 nd s + m)).set t (at0 (nd.set s (at0 nd s + m)) t - m), ?_, ?_, by omega⟩
 ·rw [certStep, hW]
  dsimp only
  rw [htt] at hcond
  rw [htt, hstop]
  dsimp only
  rw [if_pos hcond, hmdef, hs, Int.toNat_natCast, Int.toNat_natCast]
 ·obtain ⟨hi, hhi⟩ := pot_high p n
  refine ⟨by rw [sentN_len, h.fl], by rw [List.length_set, List.length_set, h.nl], fun k => ?_, ?_, fun v hv => ?_, fun v hv => ?_, fun k => ?_⟩
  ·obtain ⟨a1, a2⟩ := hsl k
   have := h.pos k
   by_cases hex : ∃ j, j < K ∧ (stepN W t j).2.2.2 = true ∧ (stepN W t j).2.2.1 = k
   ·obtain ⟨j, hj, h1, h2⟩ := hex
    have := hmb j hj h1
    rw [h2] at this; omega
   ·have := a1 fun j hj hh => hex ⟨j, hj, hh.1, hh.2⟩
    omega
  · -- the new potential
   refine ⟨fun v => if Rch W v then lgW W v else p v - (hi + 34359738368 + 16777216), (pot_iff hb).2 fun k b hk => ?_⟩
   have hbb := hb k b hk
   have hpb := (pot_iff hb).1 hp k b hk
   have hh1 := hhi b.1.toNat (by omega)
   try dsimp only
   by_cases c1 : Rch W b.1.toNat
   ·obtain ⟨c2, c3⟩ := hout k b hk c1
    rw [if_pos c1, if_pos c2]
    refine ⟨c3, fun hf => ?_⟩
    by_cases c4 : 0 < at0 f k
    ·exact (hinn k b hk c4 c2).2
    ·have hex : ∃ j, j < K ∧ (stepN W t j).2.2.2 = false ∧ (stepN W t j).2.2.1 = k := Classical.byContradiction fun hno => by
      have := (hsu k).1 fun j hj hh => hno ⟨j, hj, hh.1, hh.2⟩
      omega
     obtain ⟨j, hj, h1, h2⟩ := hex
     obtain ⟨x, v, hv, hx, _, _, _, _, _, _, h3⟩ := hlink j hj
     obtain ⟨k', b', hk', he, hcase⟩ := hco.step j hj
     have : k' = k := by omega
     subst this
     rw [hk] at hk'; cases hk'
     rcases hcase with ⟨_, h4, h5⟩ | ⟨h4, _⟩
     ·have hlen : (stepN W t j).2.1 = b.2.2.1 := by
       obtain ⟨x', v', hv', hx', _, _, _, _, h6, _⟩ := hlink j hj
       obtain ⟨k2, b2, hk2, h7⟩ := mem_steps.1 h6
       rcases h7 with ⟨_, h8⟩ | ⟨_, _, h8⟩
       ·rw [h8] at he ⊢
        have : k2 = k' := by dsimp only at he; omega
        subst this
        rw [hk] at hk2; cases hk2; rfl
       ·rw [h8] at h1; cases h1
      rw [hlen] at h3
      rw [show b.1.toNat = x by rw [h4, hx]; omega, show b.2.1.toNat = v by rw [h5, hv]; omega]
      exact h3
     ·rw [h1] at h4; cases h4
   ·rw [if_neg c1]
    have hnof : Rch W b.2.1.toNat → ¬ 0 < at0 (sentN W f m t K) k := by
     intro c2 hf
     have c4 : ¬ 0 < at0 f k := fun h0 => c1 (hinn k b hk h0 c2).1
     have hex : ∃ j, j < K ∧ (stepN W t j).2.2.2 = false ∧ (stepN W t j).2.2.1 = k := Classical.byContradiction fun hno => by
      have := (hsu k).1 fun j hj hh => hno ⟨j, hj, hh.1, hh.2⟩
      omega
     obtain ⟨j, hj, h1, h2⟩ := hex
     obtain ⟨x, v, hv, hx, _, _, hxr, _⟩ := hlink j hj
     obtain ⟨k', b', hk', he, hcase⟩ := hco.step j hj
     have : k' = k := by omega
     subst this
     rw [hk] at hk'; cases hk'
     rcases hcase with ⟨_, h4, _⟩ | ⟨h4, _⟩
     ·exact c1 (by rw [show b.1.toNat = x by rw [h4, hx]; omega]; exact hxr)
     ·rw [h1] at h4; cases h4
    by_cases c2 : Rch W b.2.1.toNat
    ·rw [if_pos c2]
     have := hlow b.2.1.toNat (by omega) c2
     exact ⟨by omega, fun hf => absurd hf (hnof c2)⟩
    ·rw [if_neg c2]
     refine ⟨by omega, fun hf => ?_⟩
     by_cases c4 : 0 < at0 f k
     ·have := hpb.2 c4; omega
     ·exfalso
      have hex : ∃ j, j < K ∧ (stepN W t j).2.2.2 = false ∧ (stepN W t j).2.2.1 = k := Classical.byContradiction fun hno => by
       have := (hsu k).1 fun j hj hh => hno ⟨j, hj, hh.1, hh.2⟩
       omega
      obtain ⟨j, hj, h1, h2⟩ := hex
      obtain ⟨x, v, hv, hx, _, _, hxr, _⟩ := hlink j hj
      obtain ⟨k', b', hk', he, hcase⟩ := hco.step j hj
      have : k' = k := by omega
      subst this
      rw [hk] at hk'; cases hk'
      rcases hcase with ⟨_, h4, _⟩ | ⟨h4, _⟩
      ·exact c1 (by rw [show b.1.toNat = x by rw [h4, hx]; omega]; exact hxr)
      ·rw [h1] at h4; cases h4
  ·rw [hat v hv, hsd v, h.dv v hv, hs]
   by_cases c1 : s = v <;> by_cases c2 : t = v
   ·rw [if_pos c1, if_pos c2, if_pos (by omega), if_pos (by omega)]; omega
   ·rw [if_pos c1, if_neg c2, if_neg (by omega), if_pos (by omega)]; omega
   ·rw [if_neg c1, if_pos c2, if_pos (by omega), if_neg (by omega)]; omega
   ·rw [if_neg c1, if_neg c2, if_neg (by omega), if_neg (by omega)]; omega
  ·rw [hat v hv]
   have := h.low v hv
   by_cases c1 : s = v <;> by_cases c2 : t = v
   ·exact absurd (c1.trans c2.symm) hst
   ·subst c1; rw [if_pos rfl, if_neg c2]; omega
   ·subst c2; rw [if_neg c1, if_pos rfl]; omega
   ·rw [if_neg c1, if_neg c2]; omega
  ·have := (hsu k).2
   have := h.cap k
   omega
theorem cert_ok {n : Nat} {l : List Bd} {T : Int} (hb : BdsOk n l) (hn : n ≤ 2048) (hT : T ≤ 1125899906842624) : ∀ (R : Nat) (f nd : List Int), Cert n l T f nd → posSum nd n < R →
  ∃ f1 nd1, certF n l R f nd = some f1 ∧ Cert n l T f1 nd1 ∧ ∀ v : Nat, v < n → 0 ≤ at0 nd1 v := by
 intro R
 induction R with
 | zero => intro f nd h hR; have := posSum_nonneg nd n; omega
 | succ R ih =>
  intro f nd h hR
  rw [certF]
  rcases hem : (negs nd n).isEmpty with _ | _
  ·have hex : ∃ s : Nat, s < n ∧ at0 nd s < 0 := by
    cases hl : negs nd n with
    | nil => rw [hl] at hem; cases hem
    | cons x r =>
     have hx : x ∈ negs nd n := by rw [hl]; simp
     have hxb := (negs_in nd n).1 x hx
     have := mem_negs.1 (show ((x.toNat : Nat) : Int) ∈ negs nd n by rw [show ((x.toNat : Nat) : Int) = x by omega]; exact hx)
     exact ⟨_, this.1, this.2⟩
   obtain ⟨f', nd', h1, h2, h3⟩ := cert_round hb hn hT h hex
   rw [if_neg (by decide), h1]
   try dsimp only
   exact ih f' nd' h2 (by omega)
  ·rw [if_pos rfl]
   refine ⟨f, nd, rfl, h, fun v hv => ?_⟩
   rcases Int.lt_or_le (at0 nd v) 0 with h1 | h1
   ·have := (mem_negs (n := n)).2 ⟨hv, h1⟩
    rw [List.isEmpty_iff.1 hem] at this; simp at this
   ·exact h1
end partZb
end Go.Proofs.Ythbcmebhpabpnaa.Sx
