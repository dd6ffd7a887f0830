/- Ordering: the program. -/
import Derived.Test.YtldbcbclhpcofaaGreatStL
import Derived.Test.YtldbcbclhpcofaaGreatF
set_option linter.unusedSimpArgs false
set_option linter.unusedVariables false
namespace Go.Proofs.YtldbcbclhpcofaaGreat
open Go Go.PS Go.Proofs
open Go.Bd (sm sumC Part)
set_option maxRecDepth 100000
attribute [local irreducible] Zaw wpG Zah Zai

set_option maxHeartbeats 8000000 in
theorem own_spec (a : Lv) (h : Zax a = true) : Zah Tryz.prog 36 [lvD a] (lvD a) := by
 obtain ⟨s1, s2, s3⟩ := Zco h
 obtain ⟨t1, t2⟩ := Zcm h
 have hca := cloneA_spec a.2.2.1 (by omega)
 have hl1 : ∀ (k : Nat) x, a.2.1[k]? = some x → Zah Tryz.prog 62 [Zak x] (Zak x) := fun k x hx => cloneI_spec x (by have := Zbp (List.mem_of_getElem? hx); omega)
 have hl2 : ∀ (k : Nat) x, a.2.2.2[k]? = some x → Zah Tryz.prog 62 [Zak x] (Zak x) := fun k x hx => cloneI_spec x (by have := s3 x (List.mem_of_getElem? hx); omega)
 obtain ⟨n, ls, ar, cs⟩ := a
 dsimp only at *
 refine Zaf Tryz.func36 rfl (by decide +kernel) (Nat.le_of_ble_eq_true rfl) ?_
 intro hat B X w0
 repeat' first | refine Zad rfl ?_ | refine Zac ?_ | refine wR ?_ | (refine rc (hca) rfl ?_ ?_; (· first | rfl | simp (disch := omega) only [go_sem, simprocAttr])) | (refine Zaa rfl rfl (fun hc => ?_) (fun hc => ?_) <;> try simp only [hcL] at hc) | (refine Zab _ rfl rfl (fun hc => ?_) (fun hc => ?_) <;> (try simp only [hcL] at hc) <;> try omega) | simp (disch := omega) only [go_sem, simprocAttr] | apply And.intro | omega | decide +kernel
 refine Zbc _ (Zcj 3 1 901 1 rfl rfl rfl) ?_
 refine Zao (κ := Nat) (fun (k : Nat) => k ≤ ls.length) (fun (k : Nat) => [(1, .ptr 1 0 0 0), (2, .ptr 2 0 0 0), (3, .ptr 3 0 0 0), (15, .d (Zaj ls)), (16, .int ls.length), (17, .int k)]) (fun (k : Nat) => [(1, .cells [.int n, .d (Zaj ls), .d (Zal ar), .d (Zaj cs)]), (2, .cells [.int 0, .nilS, .nilS, .nilS]), (3, .cells [.int n, .ref 901 1 0 k k, .d (Zal ar), .nilS]), (901, .row 1 ((ls.take k).map Zak))]) (fun (k : Nat) => ls.length - k) 0 ?_ ?_ ?_
 ·exact Nat.zero_le _
 ·exact eL [] _ _ (by refine ⟨?_, ?_⟩ <;> (repeat' first | exact fmn | refine fmc ⟨(by first | rfl | (simp (disch := omega) only [go_sem, simprocAttr, inL, List.take_zero, List.map_nil]; first | done | omega | (congr 1; done))), ?_⟩); done)
 ·intro k hk
  have hlk : (ls.take k).length = k := by rw [List.length_take]; omega
  have htk : ((ls.take k).map Zak).take k = (ls.take k).map Zak := List.take_of_length_le (by rw [List.length_map, hlk]; exact Nat.le_refl _)
  rcases Nat.lt_or_ge k ls.length with hlt | hge
  ·obtain ⟨x, hx⟩ := Zam hlt
   have hc1 := hl1 k x hx
   have e1 := Zas hx
   repeat' first | refine Zad rfl ?_ | refine Zac ?_ | refine wR ?_ | (refine rc (hc1) rfl ?_ ?_; (· first | rfl | simp (disch := omega) only [go_sem, simprocAttr, hx, hlk, htk, Zba])) | (refine Zaa rfl rfl (fun hc => ?_) (fun hc => ?_) <;> try simp only [hcL] at hc) | (refine Zab _ rfl rfl (fun hc => ?_) (fun hc => ?_) <;> (try simp only [hcL] at hc) <;> try omega) | simp (disch := omega) only [go_sem, simprocAttr, hx, hlk, htk, Zba] | exact fun d hd => by rw [List.mem_singleton.1 hd]; rfl | apply And.intro | omega | decide +kernel
   refine ⟨k + 1, ?_, eL [(901, 26)] _ _ (by refine ⟨?_, ?_⟩ <;> (repeat' first | exact fmn | refine fmc ⟨(by first | rfl | (simp (disch := omega) only [go_sem, simprocAttr, inL, e1, htk, List.map_append, List.map_cons, List.map_nil]; first | done | omega | (congr 1; done))), ?_⟩); done), ?_⟩
   ·omega
   ·omega
  ·have : k = ls.length := by omega
   subst this
   try dsimp only
   rw [List.take_length]
   repeat' first | refine Zad rfl ?_ | refine Zac ?_ | refine wR ?_ | (refine Zaa rfl rfl (fun hc => ?_) (fun hc => ?_) <;> try simp only [hcL] at hc) | (refine Zab _ rfl rfl (fun hc => ?_) (fun hc => ?_) <;> (try simp only [hcL] at hc) <;> try omega) | simp (disch := omega) only [go_sem, simprocAttr] | apply And.intro | omega | decide +kernel
   refine Zbc _ (Zcj 3 3 902 1 rfl rfl rfl) ?_
   refine Zao (κ := Nat) (fun (k : Nat) => k ≤ cs.length) (fun (k : Nat) => [(2, .ptr 2 0 0 0), (3, .ptr 3 0 0 0), (30, .d (Zaj cs)), (31, .int cs.length), (32, .int k)]) (fun (k : Nat) => [(2, .cells [.int 0, .nilS, .nilS, .nilS]), (3, .cells [.int n, .ref 901 1 0 ls.length ls.length, .d (Zal ar), .ref 902 1 0 k k]), (901, .row 1 (ls.map Zak)), (902, .row 1 ((cs.take k).map Zak))]) (fun (k : Nat) => cs.length - k) 0 ?_ ?_ ?_
   ·exact Nat.zero_le _
   ·exact eL [] _ _ (by refine ⟨?_, ?_⟩ <;> (repeat' first | exact fmn | refine fmc ⟨(by first | rfl | (simp (disch := omega) only [go_sem, simprocAttr, inL, List.take_zero, List.map_nil]; first | done | omega | (congr 1; done))), ?_⟩); done)
   ·intro k hk
    have hlk : (cs.take k).length = k := by rw [List.length_take]; omega
    have htk : ((cs.take k).map Zak).take k = (cs.take k).map Zak := List.take_of_length_le (by rw [List.length_map, hlk]; exact Nat.le_refl _)
    rcases Nat.lt_or_ge k cs.length with hlt | hge
    ·obtain ⟨x, hx⟩ := Zam hlt
     have hc1 := hl2 k x hx
     have e1 := Zas hx
     repeat' first | refine Zad rfl ?_ | refine Zac ?_ | refine wR ?_ | (refine rc (hc1) rfl ?_ ?_; (· first | rfl | simp (disch := omega) only [go_sem, simprocAttr, hx, hlk, htk, Zba])) | (refine Zaa rfl rfl (fun hc => ?_) (fun hc => ?_) <;> try simp only [hcL] at hc) | (refine Zab _ rfl rfl (fun hc => ?_) (fun hc => ?_) <;> (try simp only [hcL] at hc) <;> try omega) | simp (disch := omega) only [go_sem, simprocAttr, hx, hlk, htk, Zba] | exact fun d hd => by rw [List.mem_singleton.1 hd]; rfl | apply And.intro | omega | decide +kernel
     refine ⟨k + 1, ?_, eL [(902, 41)] _ _ (by refine ⟨?_, ?_⟩ <;> (repeat' first | exact fmn | refine fmc ⟨(by first | rfl | (simp (disch := omega) only [go_sem, simprocAttr, inL, e1, htk, List.map_append, List.map_cons, List.map_nil]; first | done | omega | (congr 1; done))), ?_⟩); done), ?_⟩
     ·omega
     ·omega
    ·have : k = cs.length := by omega
     subst this
     try dsimp only
     rw [List.take_length]
     repeat' first | refine Zad rfl ?_ | refine Zac ?_ | refine wR ?_ | (refine Zaa rfl rfl (fun hc => ?_) (fun hc => ?_) <;> try simp only [hcL] at hc) | (refine Zab _ rfl rfl (fun hc => ?_) (fun hc => ?_) <;> (try simp only [hcL] at hc) <;> try omega) | simp (disch := omega) only [go_sem, simprocAttr] | apply And.intro | omega | decide +kernel
     refine ⟨_, _, _, _, rfl, ?_⟩
     simp (disch := omega) only [go_sem, simprocAttr, toD, List.length_map, Nat.le_refl, List.drop_zero]
     rw [Zae, Zae]
def nowI (m : List (List Int)) (A b : Nat) : Int := sm (fun j => if A < j then Zan m A j else 0) b
def nowT (m : List (List Int)) (A : Nat) : Int := sm (fun A => nowI m A m.length) A
theorem nowI_in {m : List (List Int)} (hs : Sq m) (A b : Nat) : 0 ≤ nowI m A b ∧ nowI m A b ≤ 1000000 * b := Go.Bd.sm_bounds b fun k _ => by
 have := cellAt_le hs A k
 split <;> omega
theorem nowT_le {m : List (List Int)} (hs : Sq m) (h8 : m.length ≤ 8) (A : Nat) : 0 ≤ nowT m A ∧ nowT m A ≤ 8000000 * A :=
 Go.Bd.sm_bounds A fun k _ => by
  have := nowI_in hs k m.length
  omega
theorem nowI_split (m : List (List Int)) (A : Nat) : ∀ n, A < n → nowI m A n = sm (fun j => Zan m A (A + 1 + j)) (n - 1 - A)
 | 0, h => by omega
 | n + 1, h => by
  have e : nowI m A (n + 1) = nowI m A n + (if A < n then Zan m A n else 0) := rfl
  rw [e]
  by_cases c : A < n
  ·rw [nowI_split m A n c, if_pos c, show n + 1 - 1 - A = (n - 1 - A) + 1 by omega]
   have e2 : sm (fun j => Zan m A (A + 1 + j)) (n - 1 - A + 1) = sm (fun j => Zan m A (A + 1 + j)) (n - 1 - A) + Zan m A (A + 1 + (n - 1 - A)) := rfl
   rw [e2, show A + 1 + (n - 1 - A) = n by omega]
  ·have : n = A := by omega
   subst this
   have z : ∀ k, k ≤ n → nowI m n k = 0 := by
    intro k
    induction k with
    | zero => intro _; rfl
    | succ k ih =>
     intro hk
     have e3 : nowI m n (k + 1) = nowI m n k + (if n < k then Zan m n k else 0) := rfl
     rw [e3, ih (by omega), if_neg (by omega)]; rfl
   rw [z n (Nat.le_refl _), if_neg c, show n + 1 - 1 - n = 0 by omega]; rfl
theorem sm_congr {f g : Nat → Int} : ∀ n, (∀ k, k < n → f k = g k) → sm f n = sm g n
 | 0, _ => rfl
 | n + 1, h => by
  have e : ∀ f : Nat → Int, sm f (n + 1) = sm f n + f n := fun _ => rfl
  rw [e, e, sm_congr n fun k hk => h k (by omega), h n (by omega)]
theorem now_sum (m : List (List Int)) : nowT m m.length = sumC (Zan m) (List.range m.length) := by
 rw [Go.Bd.sumC_range, nowT]
 exact sm_congr _ fun A hA => nowI_split m A _ hA
theorem osmall_spec (l : List Int) (hl : l.length ≤ 1000000) : Zah Tryz.prog 25 [Zak l] (.bool (decide (l.length ≤ 8))) := by
 refine Zaf Tryz.func25 rfl (by decide +kernel) (Nat.le_of_ble_eq_true rfl) ?_
 intro hat B X w0
 repeat' first | refine Zad rfl ?_ | refine Zac ?_ | refine wR ?_ | (refine Zaa rfl rfl (fun hc => ?_) (fun hc => ?_) <;> try simp only [hcL] at hc) | (refine Zab _ rfl rfl (fun hc => ?_) (fun hc => ?_) <;> (try simp only [hcL] at hc) <;> try omega) | simp (disch := omega) only [go_sem, simprocAttr] | apply And.intro | omega | decide +kernel
 exact Zar (by rw [Bool.eq_iff_iff]; simp only [decide_eq_true_eq]; omega)
set_option maxHeartbeats 8000000 in
theorem better_spec (a : Lv) (i : Nat) (hw : wide a) (hv : Zax a = true) (har : a.2.2.1.length ≤ 700) (hil : i < a.2.1.length) :
  Zah Tryz.prog 34 [lvD a, .int i] (.tup [natsD (betF a i).1, .bool (betF a i).2]) := by
 obtain ⟨y, hy⟩ := Zam hil
 have hyl := Zbp (List.mem_of_getElem? hy)
 obtain ⟨t1, t2⟩ := Zcm hv
 have h1 := osmall_spec y (by omega)
 rw [betF, Zbn hy]
 by_cases h8 : 8 < y.length
 ·rw [if_pos h8]
  rw [decide_eq_false (by omega)] at h1
  obtain ⟨n, ls, ar, cs⟩ := a
  dsimp only at *
  refine Zaf Tryz.func34 rfl (by decide +kernel) (Nat.le_of_ble_eq_true rfl) ?_
  intro hat B X w0
  repeat' first | refine Zad rfl ?_ | refine Zac ?_ | refine wR ?_ | (refine rc (h1) rfl ?_ ?_; (· first | rfl | simp (disch := omega) only [go_sem, simprocAttr, hy])) | (refine Zaa rfl rfl (fun hc => ?_) (fun hc => ?_) <;> try simp only [hcL] at hc) | (refine Zab _ rfl rfl (fun hc => ?_) (fun hc => ?_) <;> (try simp only [hcL] at hc) <;> try omega) | simp (disch := omega) only [go_sem, simprocAttr, hy] | apply And.intro | omega | decide +kernel
  exact ⟨_, rfl, Zcc rfl, Zar rfl, trivial⟩
 ·rw [if_neg h8]
  rw [decide_eq_true (by omega)] at h1
  have h2 := omatrix_spec a i hw hv hil
  have hmok := orM_ok (i := i) har (by rw [Zbn hy]; exact h8)
  have h3 := Least_spec (orM a i)
  rw [if_pos hmok] at h3
  obtain ⟨hs, hm8⟩ := ok_sq hmok
  have hml := orM_len a i
  rw [Zbn hy] at hml
  have hns := now_sum (orM a i)
  have hbb : 0 ≤ (Zbl (orM a i)).2 ∧ (Zbl (orM a i)).2 ≤ 64000000 := by
   obtain ⟨g1, g2, _⟩ := Go.Bd.best_bounds hs.small hm8 (part_nil _) (bestAll_eq (orM a i))
   exact ⟨g1, g2⟩
  rw [betB, Zbn hy, ← hml, ← hns]
  have hni := nowI_in hs
  have hnt := nowT_le hs hm8
  have hIs : ∀ A b, nowI (orM a i) A (b + 1) = nowI (orM a i) A b + (if A < b then Zan (orM a i) A b else 0) := fun _ _ => rfl
  have hTs : ∀ A, nowT (orM a i) (A + 1) = nowT (orM a i) A + nowI (orM a i) A (orM a i).length := fun _ => rfl
  have hI0 : ∀ A, nowI (orM a i) A 0 = 0 := fun _ => rfl
  have hT0 : nowT (orM a i) 0 = 0 := rfl
  generalize orM a i = m at *
  generalize nowI m = I at *
  generalize nowT m = T at *
  generalize Zbl m = BB at *
  obtain ⟨p, cost⟩ := BB
  obtain ⟨n, ls, ar, cs⟩ := a
  dsimp only at *
  refine Zaf Tryz.func34 rfl (by decide +kernel) (Nat.le_of_ble_eq_true rfl) ?_
  intro hat B X w0
  repeat' first | refine Zad rfl ?_ | refine Zac ?_ | refine wR ?_ | (refine rc (h1) rfl ?_ ?_; (· first | rfl | simp (disch := omega) only [go_sem, simprocAttr, hy])) | (refine rc (h2) rfl ?_ ?_; (· first | rfl | simp (disch := omega) only [go_sem, simprocAttr, hy])) | (refine Zaa rfl rfl (fun hc => ?_) (fun hc => ?_) <;> try simp only [hcL] at hc) | (refine Zab _ rfl rfl (fun hc => ?_) (fun hc => ?_) <;> (try simp only [hcL] at hc) <;> try omega) | simp (disch := omega) only [go_sem, simprocAttr, hy] | apply And.intro | omega | decide +kernel
  refine Zao (κ := Nat) (fun (u : Nat) => u ≤ m.length) (fun (u : Nat) => [(6, .d (Zaj m)), (7, .int (T u)), (24, .int m.length), (25, .int u)]) (fun (u : Nat) => []) (fun (u : Nat) => m.length - u) 0 ?_ ?_ ?_
  ·exact Nat.zero_le _
  ·exact eL [] _ _ (by refine ⟨?_, ?_⟩ <;> (repeat' first | exact fmn | refine fmc ⟨(by first | rfl | (simp (disch := omega) only [go_sem, simprocAttr, inL, hT0]; first | done | omega | (congr 1; done))), ?_⟩); done)
  ·intro u hu
   have b1 := hnt u
   rcases Nat.lt_or_ge u m.length with hlt | hge
   ·have e1 := hTs u
    repeat' first | refine Zad rfl ?_ | refine Zac ?_ | refine wR ?_ | (refine Zaa rfl rfl (fun hc => ?_) (fun hc => ?_) <;> try simp only [hcL] at hc) | (refine Zab _ rfl rfl (fun hc => ?_) (fun hc => ?_) <;> (try simp only [hcL] at hc) <;> try omega) | simp (disch := omega) only [go_sem, simprocAttr] | apply And.intro | omega | decide +kernel
    refine Zao (κ := Nat) (fun (b : Nat) => b ≤ m.length) (fun (b : Nat) => [(6, .d (Zaj m)), (7, .int (T u + I u b)), (8, .int u), (24, .int m.length), (25, .int u), (29, .int m.length), (30, .int b)]) (fun (b : Nat) => []) (fun (b : Nat) => m.length - b) 0 ?_ ?_ ?_
    ·exact Nat.zero_le _
    ·exact eL [] _ _ (by refine ⟨?_, ?_⟩ <;> (repeat' first | exact fmn | refine fmc ⟨(by first | rfl | (simp (disch := omega) only [go_sem, simprocAttr, inL, hI0, Int.add_zero]; first | done | omega | (congr 1; done))), ?_⟩); done)
    ·intro b hb
     have b2 := hni u b
     rcases Nat.lt_or_ge b m.length with hlb | hgb
     ·obtain ⟨q, hq, hql, hqv, g1, g2⟩ := hs.get hlt hlb
      have e2 := hIs u b
      by_cases c : u < b
      ·rw [if_pos c] at e2
       repeat' first | refine Zad rfl ?_ | refine Zac ?_ | refine wR ?_ | (refine Zaa rfl rfl (fun hc => ?_) (fun hc => ?_) <;> try simp only [hcL] at hc) | (refine Zab _ rfl rfl (fun hc => ?_) (fun hc => ?_) <;> (try simp only [hcL] at hc) <;> try omega) | simp (disch := omega) only [go_sem, simprocAttr, hq, hqv, hql, c] | apply And.intro | omega | decide +kernel
       refine ⟨b + 1, ?_, eL [] _ _ (by refine ⟨?_, ?_⟩ <;> (repeat' first | exact fmn | refine fmc ⟨(by first | rfl | (simp (disch := omega) only [go_sem, simprocAttr, inL, e2, Int.add_assoc]; first | done | omega | (congr 1; done))), ?_⟩); done), ?_⟩
       ·omega
       ·omega
      ·rw [if_neg c, Int.add_zero] at e2
       repeat' first | refine Zad rfl ?_ | refine Zac ?_ | refine wR ?_ | (refine Zaa rfl rfl (fun hc => ?_) (fun hc => ?_) <;> try simp only [hcL] at hc) | (refine Zab _ rfl rfl (fun hc => ?_) (fun hc => ?_) <;> (try simp only [hcL] at hc) <;> try omega) | simp (disch := omega) only [go_sem, simprocAttr, c] | apply And.intro | omega | decide +kernel
       refine ⟨b + 1, ?_, eL [] _ _ (by refine ⟨?_, ?_⟩ <;> (repeat' first | exact fmn | refine fmc ⟨(by first | rfl | (simp (disch := omega) only [go_sem, simprocAttr, inL, e2]; first | done | omega | (congr 1; done))), ?_⟩); done), ?_⟩
       ·omega
       ·omega
     ·have : b = m.length := by omega
      subst this
      repeat' first | refine Zad rfl ?_ | refine Zac ?_ | refine wR ?_ | (refine Zaa rfl rfl (fun hc => ?_) (fun hc => ?_) <;> try simp only [hcL] at hc) | (refine Zab _ rfl rfl (fun hc => ?_) (fun hc => ?_) <;> (try simp only [hcL] at hc) <;> try omega) | simp (disch := omega) only [go_sem, simprocAttr] | apply And.intro | omega | decide +kernel
      refine ⟨u + 1, ?_, eL [] _ _ (by refine ⟨?_, ?_⟩ <;> (repeat' first | exact fmn | refine fmc ⟨(by first | rfl | (simp (disch := omega) only [go_sem, simprocAttr, inL, e1]; first | done | omega | (congr 1; done))), ?_⟩); done), ?_⟩
      ·omega
      ·omega
   ·have : u = m.length := by omega
    subst this
    repeat' first | refine Zad rfl ?_ | refine Zac ?_ | refine wR ?_ | (refine rc (h3) rfl ?_ ?_; (· first | rfl | simp (disch := omega) only [go_sem, simprocAttr])) | (refine Zaa rfl rfl (fun hc => ?_) (fun hc => ?_) <;> try simp only [hcL] at hc) | (refine Zab _ rfl rfl (fun hc => ?_) (fun hc => ?_) <;> (try simp only [hcL] at hc) <;> try omega) | simp (disch := omega) only [go_sem, simprocAttr] | apply And.intro | omega | decide +kernel
    refine ⟨_, rfl, Zcc rfl, Zar ?_, trivial⟩
    rw [Bool.eq_iff_iff]
set_option maxHeartbeats 8000000 in
theorem arrange_spec (a : Lv) (i : Nat) (o : List Nat) (hw : wide a) (hv : Zax a = true) (hil : i < a.2.1.length) (ho : Part (lstN a.2.1 i).length 0 o) :
  Zah Tryz.prog 28 [lvD a, .int i, natsD o] (lvD (putL a i (Zbk (lstN a.2.1 i) o))) := by
 obtain ⟨y, hy⟩ := Zam hil
 have hyl := Zbp (List.mem_of_getElem? hy)
 obtain ⟨t1, t2⟩ := Zcm hv
 rw [Zbn hy] at ho ⊢
 have hol := ho.len
 have hr := Reorder_spec a i (Zbk y o) hw (by rw [permL_len]; omega)
 rw [reorder_put hv hy ho] at hr
 generalize putL a i (Zbk y o) = P at *
 obtain ⟨n', ls', ar', cs'⟩ := P
 obtain ⟨n, ls, ar, cs⟩ := a
 dsimp only at *
 refine Zaf Tryz.func28 rfl (by decide +kernel) (Nat.le_of_ble_eq_true rfl) ?_
 intro hat B X w0
 repeat' first | refine Zad rfl ?_ | refine Zac ?_ | refine wR ?_ | (refine Zaa rfl rfl (fun hc => ?_) (fun hc => ?_) <;> try simp only [hcL] at hc) | (refine Zab _ rfl rfl (fun hc => ?_) (fun hc => ?_) <;> (try simp only [hcL] at hc) <;> try omega) | simp (disch := omega) only [go_sem, simprocAttr] | apply And.intro | omega | decide +kernel
 refine Zbc _ (ent_nil 7 901 1 rfl rfl) ?_
 refine Zao (κ := Nat) (fun (k : Nat) => k ≤ o.length) (fun (k : Nat) => [(1, .int i), (3, .ptr 3 0 0 0), (6, .ptr 6 0 0 0), (7, .ref 901 1 0 k k), (12, .d (natsD o)), (13, .int o.length), (14, .int k)]) (fun (k : Nat) => [(3, .cells [.int n, .d (Zaj ls), .d (Zal ar), .d (Zaj cs)]), (6, .cells [.int 0, .nilS, .nilS, .nilS]), (901, .row 1 (((Zbk y o).take k).map D.int))]) (fun (k : Nat) => o.length - k) 0 ?_ ?_ ?_
 ·exact Nat.zero_le _
 ·exact eL [] _ _ (by refine ⟨?_, ?_⟩ <;> (repeat' first | exact fmn | refine fmc ⟨(by first | rfl | (simp (disch := omega) only [go_sem, simprocAttr, inL, List.take_zero, List.map_nil]; first | done | omega | (congr 1; done))), ?_⟩); done)
 ·intro k hk
  have hlk : ((Zbk y o).take k).length = k := by rw [List.length_take, permL_len]; omega
  have htk : (((Zbk y o).take k).map D.int).take k = ((Zbk y o).take k).map D.int := List.take_of_length_le (by rw [List.length_map, hlk]; exact Nat.le_refl _)
  rcases Nat.lt_or_ge k o.length with hlt | hge
  ·obtain ⟨q, hq⟩ := Zam hlt
   have hqn := ho.lt q (List.mem_of_getElem? hq)
   have hyq : y[q]? = some (yG y q) := by rw [yG, List.getElem?_eq_getElem hqn]; rfl
   have e1 : (Zbk y o).take (k + 1) = (Zbk y o).take k ++ [yG y q] := Zas (by rw [Zbk, List.getElem?_map, hq]; rfl)
   generalize (Zbk y o).take k = R at *
   repeat' first | refine Zad rfl ?_ | refine Zac ?_ | refine wR ?_ | (refine Zaa rfl rfl (fun hc => ?_) (fun hc => ?_) <;> try simp only [hcL] at hc) | (refine Zab _ rfl rfl (fun hc => ?_) (fun hc => ?_) <;> (try simp only [hcL] at hc) <;> try omega) | simp (disch := omega) only [go_sem, simprocAttr, hy, hq, hyq, hlk, htk, Zba] | exact Zbr _ | apply And.intro | omega | decide +kernel
   refine ⟨k + 1, ?_, eL [(901, 28)] _ _ (by refine ⟨?_, ?_⟩ <;> (repeat' first | exact fmn | refine fmc ⟨(by first | rfl | (simp (disch := omega) only [go_sem, simprocAttr, inL, e1, htk, List.map_append, List.map_cons, List.map_nil]; first | done | omega | (congr 1; done))), ?_⟩); done), ?_⟩
   ·omega
   ·omega
  ·have : k = o.length := by omega
   subst this
   have hfull : (Zbk y o).take o.length = Zbk y o := List.take_of_length_le (by rw [permL_len]; exact Nat.le_refl _)
   rw [hfull] at hlk htk
   rw [hfull]
   refine Zbc _ (Zck 901 1 ((Zbk y o).map D.int) rfl (Zcl _ rfl) (by decide)) ?_
   repeat' first | refine Zad rfl ?_ | refine Zac ?_ | refine wR ?_ | (refine rc (hr) rfl ?_ ?_; (· first | rfl | simp (disch := omega) only [go_sem, simprocAttr, hlk, htk, List.drop_zero])) | (refine Zaa rfl rfl (fun hc => ?_) (fun hc => ?_) <;> try simp only [hcL] at hc) | (refine Zab _ rfl rfl (fun hc => ?_) (fun hc => ?_) <;> (try simp only [hcL] at hc) <;> try omega) | simp (disch := omega) only [go_sem, simprocAttr, hlk, htk, List.drop_zero] | apply And.intro | omega | decide +kernel
   refine ⟨_, _, _, _, rfl, ?_⟩
   simp (disch := omega) only [go_sem, simprocAttr, toD]
set_option maxHeartbeats 8000000 in
theorem Exact_spec (a : Lv) (i f : Int) (hw : wide a) : Zah Tryz.prog 10 [lvD a, .int i, .int f] (.tup [lvD (exaF a i f).1, .int (exaF a i f).2]) := by
 have h1 := Zbw a hw
 rw [exaF]
 rcases hm : matOk a i f with _ | _
 ·rw [if_pos rfl]
  rw [matOk] at hm
  rcases hv : Zax a with _ | _ <;> rw [hv] at h1 hm
  ·refine Zaf Tryz.func10 rfl (by decide +kernel) (Nat.le_of_ble_eq_true rfl) ?_
   intro hat B X w0
   repeat' first | refine Zad rfl ?_ | refine Zac ?_ | refine wR ?_ | (refine rc (h1) rfl ?_ ?_; (· first | rfl | simp (disch := omega) only [go_sem, simprocAttr, List.append_eq])) | (refine Zaa rfl rfl (fun hc => ?_) (fun hc => ?_) <;> try simp only [hcL] at hc) | (refine Zab _ rfl rfl (fun hc => ?_) (fun hc => ?_) <;> (try simp only [hcL] at hc) <;> try omega) | simp (disch := omega) only [go_sem, simprocAttr, List.append_eq] | apply And.intro | omega | decide +kernel
   refine ⟨_, rfl, ⟨_, _, _, _, rfl, ?_⟩, Zaq rfl, trivial⟩
   simp (disch := omega) only [go_sem, simprocAttr, toD]
   rfl
  ·obtain ⟨t1, t2⟩ := Zcm hv
   have hn : ¬ (((0 ≤ i ∧ i < a.2.1.length) ∧ (0 ≤ f ∧ f < a.2.1.length)) ∧ (f = i - 1 ∨ f = i + 1)) := by simpa [and_assoc] using hm
   obtain ⟨n, ls, ar, cs⟩ := a
   dsimp only at t1 t2 hn
   refine Zaf Tryz.func10 rfl (by decide +kernel) (Nat.le_of_ble_eq_true rfl) ?_
   intro hat B X w0
   repeat' first | refine Zad rfl ?_ | refine Zac ?_ | refine wR ?_ | (refine rc (h1) rfl ?_ ?_; (· first | rfl | simp (disch := omega) only [go_sem, simprocAttr, List.append_eq])) | (refine Zaa rfl rfl (fun hc => ?_) (fun hc => ?_) <;> try simp only [hcL] at hc) | (refine Zab _ rfl rfl (fun hc => ?_) (fun hc => ?_) <;> (try simp only [hcL] at hc) <;> try omega) | simp (disch := omega) only [go_sem, simprocAttr, List.append_eq] | apply And.intro | omega | decide +kernel
   all_goals
    refine ⟨_, rfl, ⟨_, _, _, _, rfl, ?_⟩, Zaq rfl, trivial⟩
    simp (disch := omega) only [go_sem, simprocAttr, toD]
    rfl
 ·rw [if_neg (by decide)]
  obtain ⟨hv, hi, hf, hif⟩ := matOk_in hm
  rw [hv] at h1
  obtain ⟨t1, t2⟩ := Zcm hv
  have hp := matF_part hm
  have h3 := Matrix_spec a i f hw
  have hml := matF_len hm
  have hsq := MatrixF_sq a i f
  obtain ⟨i, rfl⟩ : ∃ n : Nat, i = n := ⟨i.toNat, by omega⟩
  rw [Int.toNat_natCast] at *
  obtain ⟨y, hy⟩ := Zam (l := a.2.1) (k := i) (by omega)
  have hyl := Zbp (List.mem_of_getElem? hy)
  have h2 := osmall_spec y (by omega)
  have h5 := fun ho => arrange_spec a i (Zbl (Zat a i f)).1 hw hv (by omega) ho
  rw [Zbn hy] at *
  by_cases h8 : 8 < y.length
  ·rw [if_pos h8]
   rw [decide_eq_false (by omega)] at h2
   obtain ⟨n, ls, ar, cs⟩ := a
   dsimp only at *
   refine Zaf Tryz.func10 rfl (by decide +kernel) (Nat.le_of_ble_eq_true rfl) ?_
   intro hat B X w0
   repeat' first | refine Zad rfl ?_ | refine Zac ?_ | refine wR ?_ | (refine rc (h1) rfl ?_ ?_; (· first | rfl | simp (disch := omega) only [go_sem, simprocAttr, List.append_eq, hy])) | (refine rc (h2) rfl ?_ ?_; (· first | rfl | simp (disch := omega) only [go_sem, simprocAttr, List.append_eq, hy])) | (refine Zaa rfl rfl (fun hc => ?_) (fun hc => ?_) <;> try simp only [hcL] at hc) | (refine Zab _ rfl rfl (fun hc => ?_) (fun hc => ?_) <;> (try simp only [hcL] at hc) <;> try omega) | simp (disch := omega) only [go_sem, simprocAttr, List.append_eq, hy] | apply And.intro | omega | decide +kernel
   all_goals
    refine ⟨_, rfl, ⟨_, _, _, _, rfl, ?_⟩, Zaq rfl, trivial⟩
    simp (disch := omega) only [go_sem, simprocAttr, toD]
    rfl
  ·rw [if_neg h8]
   rw [decide_eq_true (by omega)] at h2
   have h4 := Least_spec (Zat a i f)
   rw [if_pos (sq_ok hsq (by omega))] at h4
   have h6 := h5 hp
   clear h5
   generalize Zat a i f = m at *
   generalize Zbl m = BB at *
   obtain ⟨p, cost⟩ := BB
   dsimp only at *
   generalize putL a i (Zbk y p) = P at *
   obtain ⟨n', ls', ar', cs'⟩ := P
   obtain ⟨n, ls, ar, cs⟩ := a
   dsimp only at *
   refine Zaf Tryz.func10 rfl (by decide +kernel) (Nat.le_of_ble_eq_true rfl) ?_
   intro hat B X w0
   repeat' first | refine Zad rfl ?_ | refine Zac ?_ | refine wR ?_ | (refine rc (h1) rfl ?_ ?_; (· first | rfl | simp (disch := omega) only [go_sem, simprocAttr, List.append_eq, hy])) | (refine rc (h2) rfl ?_ ?_; (· first | rfl | simp (disch := omega) only [go_sem, simprocAttr, List.append_eq, hy])) | (refine rc (h3) rfl ?_ ?_; (· first | rfl | simp (disch := omega) only [go_sem, simprocAttr, List.append_eq, hy])) | (refine rc (h4) rfl ?_ ?_; (· first | rfl | simp (disch := omega) only [go_sem, simprocAttr, List.append_eq, hy])) | (refine rc (h6) rfl ?_ ?_; (· first | rfl | simp (disch := omega) only [go_sem, simprocAttr, List.append_eq, hy])) | (refine Zaa rfl rfl (fun hc => ?_) (fun hc => ?_) <;> try simp only [hcL] at hc) | (refine Zab _ rfl rfl (fun hc => ?_) (fun hc => ?_) <;> (try simp only [hcL] at hc) <;> try omega) | simp (disch := omega) only [go_sem, simprocAttr, List.append_eq, hy] | apply And.intro | omega | decide +kernel
   all_goals
    refine ⟨_, rfl, ⟨_, _, _, _, rfl, ?_⟩, Zaq rfl, trivial⟩
    simp (disch := omega) only [go_sem, simprocAttr, toD]
set_option maxHeartbeats 8000000 in
theorem Optimal_spec (a : Lv) (i : Int) (hw : wide a) (har : a.2.2.1.length ≤ 700) : Zah Tryz.prog 13 [lvD a, .int i] (.bool (optF a i)) := by
 have h1 := Zbw a hw
 rw [optF]
 rcases hv : Zax a with _ | _ <;> rw [hv] at h1
 ·refine Zaf Tryz.func13 rfl (by decide +kernel) (Nat.le_of_ble_eq_true rfl) ?_
  intro hat B X w0
  repeat' first | refine Zad rfl ?_ | refine Zac ?_ | refine wR ?_ | (refine rc (h1) rfl ?_ ?_; (· first | rfl | simp (disch := omega) only [go_sem, simprocAttr, List.append_eq])) | (refine Zaa rfl rfl (fun hc => ?_) (fun hc => ?_) <;> try simp only [hcL] at hc) | (refine Zab _ rfl rfl (fun hc => ?_) (fun hc => ?_) <;> (try simp only [hcL] at hc) <;> try omega) | simp (disch := omega) only [go_sem, simprocAttr, List.append_eq] | apply And.intro | omega | decide +kernel
  exact Zar rfl
 ·obtain ⟨t1, t2⟩ := Zcm hv
  by_cases hi : 0 ≤ i ∧ i < a.2.1.length
  ·rw [decide_eq_true hi]
   obtain ⟨i, rfl⟩ : ∃ n : Nat, i = n := ⟨i.toNat, by omega⟩
   rw [Int.toNat_natCast]
   obtain ⟨y, hy⟩ := Zam (l := a.2.1) (k := i) (by omega)
   have hyl := Zbp (List.mem_of_getElem? hy)
   have h2 := osmall_spec y (by omega)
   have h3 := better_spec a i hw hv har (by omega)
   rw [betF] at h3
   rw [Zbn hy] at *
   by_cases h8 : 8 < y.length
   ·rw [decide_eq_false (fun h => h h8)]
    rw [decide_eq_false (by omega)] at h2
    obtain ⟨n, ls, ar, cs⟩ := a
    dsimp only at *
    refine Zaf Tryz.func13 rfl (by decide +kernel) (Nat.le_of_ble_eq_true rfl) ?_
    intro hat B X w0
    repeat' first | refine Zad rfl ?_ | refine Zac ?_ | refine wR ?_ | (refine rc (h1) rfl ?_ ?_; (· first | rfl | simp (disch := omega) only [go_sem, simprocAttr, List.append_eq, hy])) | (refine rc (h2) rfl ?_ ?_; (· first | rfl | simp (disch := omega) only [go_sem, simprocAttr, List.append_eq, hy])) | (refine Zaa rfl rfl (fun hc => ?_) (fun hc => ?_) <;> try simp only [hcL] at hc) | (refine Zab _ rfl rfl (fun hc => ?_) (fun hc => ?_) <;> (try simp only [hcL] at hc) <;> try omega) | simp (disch := omega) only [go_sem, simprocAttr, List.append_eq, hy] | apply And.intro | omega | decide +kernel
    all_goals exact Zar rfl
   ·rw [decide_eq_true h8]
    rw [decide_eq_true (by omega)] at h2
    rw [if_neg h8] at h3
    generalize betB a i = b at *
    generalize Zbl (orM a i) = BB at *
    obtain ⟨n, ls, ar, cs⟩ := a
    dsimp only at *
    refine Zaf Tryz.func13 rfl (by decide +kernel) (Nat.le_of_ble_eq_true rfl) ?_
    intro hat B X w0
    repeat' first | refine Zad rfl ?_ | refine Zac ?_ | refine wR ?_ | (refine rc (h1) rfl ?_ ?_; (· first | rfl | simp (disch := omega) only [go_sem, simprocAttr, List.append_eq, hy])) | (refine rc (h2) rfl ?_ ?_; (· first | rfl | simp (disch := omega) only [go_sem, simprocAttr, List.append_eq, hy])) | (refine rc (h3) rfl ?_ ?_; (· first | rfl | simp (disch := omega) only [go_sem, simprocAttr, List.append_eq, hy])) | (refine Zaa rfl rfl (fun hc => ?_) (fun hc => ?_) <;> try simp only [hcL] at hc) | (refine Zab _ rfl rfl (fun hc => ?_) (fun hc => ?_) <;> (try simp only [hcL] at hc) <;> try omega) | simp (disch := omega) only [go_sem, simprocAttr, List.append_eq, hy] | apply And.intro | omega | decide +kernel
    exact Zar (by simp)
  ·rw [decide_eq_false hi]
   obtain ⟨n, ls, ar, cs⟩ := a
   dsimp only at *
   refine Zaf Tryz.func13 rfl (by decide +kernel) (Nat.le_of_ble_eq_true rfl) ?_
   intro hat B X w0
   repeat' first | refine Zad rfl ?_ | refine Zac ?_ | refine wR ?_ | (refine rc (h1) rfl ?_ ?_; (· first | rfl | simp (disch := omega) only [go_sem, simprocAttr, List.append_eq])) | (refine Zaa rfl rfl (fun hc => ?_) (fun hc => ?_) <;> try simp only [hcL] at hc) | (refine Zab _ rfl rfl (fun hc => ?_) (fun hc => ?_) <;> (try simp only [hcL] at hc) <;> try omega) | simp (disch := omega) only [go_sem, simprocAttr, List.append_eq] | apply And.intro | omega | decide +kernel
   all_goals exact Zar rfl
set_option maxHeartbeats 8000000 in
theorem Refine_spec (a : Lv) (hw : wide a) (har : a.2.2.1.length ≤ 700) : Zah Tryz.prog 15 [lvD a] (lvD (if Zax a then Zci a else lv0)) := by
 have h1 := Zbw a hw
 rcases hv : Zax a with _ | _ <;> rw [hv] at h1
 ·rw [if_neg (by decide)]
  refine Zaf Tryz.func15 rfl (by decide +kernel) (Nat.le_of_ble_eq_true rfl) ?_
  intro hat B X w0
  repeat' first | refine Zad rfl ?_ | refine Zac ?_ | refine wR ?_ | (refine rc (h1) rfl ?_ ?_; (· first | rfl | simp (disch := omega) only [go_sem, simprocAttr])) | (refine Zaa rfl rfl (fun hc => ?_) (fun hc => ?_) <;> try simp only [hcL] at hc) | (refine Zab _ rfl rfl (fun hc => ?_) (fun hc => ?_) <;> (try simp only [hcL] at hc) <;> try omega) | simp (disch := omega) only [go_sem, simprocAttr] | apply And.intro | omega | decide +kernel
  refine ⟨_, _, _, _, rfl, ?_⟩
  simp (disch := omega) only [go_sem, simprocAttr, toD]
  rfl
 ·rw [if_pos rfl]
  obtain ⟨t1, t2⟩ := Zcm hv
  have h2 := own_spec a hv
  have hK0 := Kin.refl hv hw
  have h3 : ∀ (b : Lv) (i : Nat), Kin a b → i < a.2.1.length → Zah Tryz.prog 34 [lvD b, .int i] (.tup [natsD (betF b i).1, .bool (betF b i).2]) := fun b i h hi => better_spec b i h.wd h.ok (by rw [h.arcs]; exact har) (by rw [h.len]; exact hi)
  have h4 : ∀ (b : Lv) (i : Nat), Kin a b → i < a.2.1.length → (betF b i).2 = true → Zah Tryz.prog 28 [lvD b, .int i, natsD (betF b i).1] (lvD (bestPut b i)) := fun b i h hi hb => by
   have hy := betF_yes hb
   have e : (betF b i).1 = (Zbl (orM b i)).1 := by rw [betF, if_neg hy.1]
   rw [e]
   exact arrange_spec b i _ h.wd h.ok (by rw [h.len]; exact hi) (orM_part b i)
  obtain ⟨M, hM⟩ : ∃ M, M = refMs a 0 := ⟨_, rfl⟩
  rw [Zci, ← hM]
  generalize hR : refN M a 0 = R
  obtain ⟨L, hL⟩ : ∃ L, L = a.2.1.length := ⟨_, rfl⟩
  rw [← hL] at h3 h4 t1
  refine Zaf Tryz.func15 rfl (by decide +kernel) (Nat.le_of_ble_eq_true rfl) ?_
  intro hat B X w0
  repeat' first | refine Zad rfl ?_ | refine Zac ?_ | refine wR ?_ | (refine rc (h1) rfl ?_ ?_; (· first | rfl | simp (disch := omega) only [go_sem, simprocAttr])) | (refine rc (h2) rfl ?_ ?_; (· first | rfl | simp (disch := omega) only [go_sem, simprocAttr])) | (refine Zaa rfl rfl (fun hc => ?_) (fun hc => ?_) <;> try simp only [hcL] at hc) | (refine Zab _ rfl rfl (fun hc => ?_) (fun hc => ?_) <;> (try simp only [hcL] at hc) <;> try omega) | simp (disch := omega) only [go_sem, simprocAttr] | apply And.intro | omega | decide +kernel
  refine Zao (κ := Nat × Lv × Nat) (fun (q : Nat × Lv × Nat) => match q with | (f, b, i) => Kin a b ∧ refMs b i ≤ f ∧ i ≤ L ∧ refN f b i = R) (fun (q : Nat × Lv × Nat) => match q with | (f, b, i) => [(1, .ptr 1 0 0 0), (2, .ptr 2 0 0 0), (3, .int i)]) (fun (q : Nat × Lv × Nat) => match q with | (f, b, i) => [(1, .cells [.int b.1, .d (Zaj b.2.1), .d (Zal b.2.2.1), .d (Zaj b.2.2.2)]), (2, .cells [.int 0, .nilS, .nilS, .nilS])]) (fun (q : Nat × Lv × Nat) => match q with | (f, b, i) => f) (M, a, 0) ?_ ?_ ?_
  ·exact ⟨hK0, Nat.le_of_eq hM.symm, Nat.zero_le _, hR⟩
  ·exact eL [] _ _ (by refine ⟨?_, ?_⟩ <;> (repeat' first | exact fmn | refine fmc ⟨(by first | rfl | (simp (disch := omega) only [go_sem, simprocAttr, inL]; first | done | omega | (congr 1; done))), ?_⟩); done)
  ·rintro ⟨f, b, i⟩ ⟨hK, hms, hi, hres⟩
   dsimp only at hK hms hi hres ⊢
   have hbl : b.2.1.length = L := by rw [hK.len, hL]
   rcases Nat.lt_or_ge i L with hlt | hge
   ·have hf : 0 < f := by
     have : refMs b i = (Zbf b).toNat * (b.2.1.length + 1) + (b.2.1.length - i) := rfl
     omega
    obtain ⟨f, rfl⟩ : ∃ g, f = g + 1 := ⟨f - 1, by omega⟩
    rw [refN, if_pos (by omega)] at hres
    have c1 := h3 b i hK hlt
    rcases hb : (betF b i).2 with _ | _
    ·rw [hb] at c1
     rw [hb, if_neg (by decide)] at hres
     have hs := ms_step (b := b) (i := i) (by omega)
     clear h3 h4
     obtain ⟨n, ls, ar, cs⟩ := b
     dsimp only at hbl hb c1 ⊢
     repeat' first | refine Zad rfl ?_ | refine Zac ?_ | refine wR ?_ | (refine rc (c1) rfl ?_ ?_; (· first | rfl | simp (disch := omega) only [go_sem, simprocAttr, hbl])) | (refine Zaa rfl rfl (fun hc => ?_) (fun hc => ?_) <;> try simp only [hcL] at hc) | (refine Zab _ rfl rfl (fun hc => ?_) (fun hc => ?_) <;> (try simp only [hcL] at hc) <;> try omega) | simp (disch := omega) only [go_sem, simprocAttr, hbl] | apply And.intro | omega | decide +kernel
     refine ⟨(f, (n, ls, ar, cs), i + 1), ?_, eL [] _ _ (by refine ⟨?_, ?_⟩ <;> (repeat' first | exact fmn | refine fmc ⟨(by first | rfl | (simp (disch := omega) only [go_sem, simprocAttr, inL, Int.natCast_add, Int.natCast_one]; first | done | omega | (congr 1; done))), ?_⟩); done), ?_⟩
     ·exact ⟨hK, by dsimp only; omega, hlt, hres⟩
     ·exact Nat.lt_succ_self _
    ·have c2 := h4 b i hK hlt hb
     rw [hb] at c1
     rw [hb, if_pos rfl] at hres
     have hs := ms_put hK (by omega) (betF_yes hb).2
     have hK2 := bet_kin hK (i := i) (by omega)
     clear h3 h4
     generalize bestPut b i = P at *
     obtain ⟨n, ls, ar, cs⟩ := b
     dsimp only at hbl hb c1 c2 ⊢
     repeat' first | refine Zad rfl ?_ | refine Zac ?_ | refine wR ?_ | (refine rc (c1) rfl ?_ ?_; (· first | rfl | simp (disch := omega) only [go_sem, simprocAttr, hbl])) | (refine rc (c2) rfl ?_ ?_; (· first | rfl | simp (disch := omega) only [go_sem, simprocAttr, hbl])) | (refine Zaa rfl rfl (fun hc => ?_) (fun hc => ?_) <;> try simp only [hcL] at hc) | (refine Zab _ rfl rfl (fun hc => ?_) (fun hc => ?_) <;> (try simp only [hcL] at hc) <;> try omega) | simp (disch := omega) only [go_sem, simprocAttr, hbl] | apply And.intro | omega | decide +kernel
     refine ⟨(f, P, 0), ?_, eL [] _ _ (by refine ⟨?_, ?_⟩ <;> (repeat' first | exact fmn | refine fmc ⟨(by first | rfl | (simp (disch := omega) only [go_sem, simprocAttr, inL]; first | done | omega | (congr 1; done))), ?_⟩); done), ?_⟩
     ·exact ⟨hK2, by dsimp only; omega, Nat.zero_le _, hres⟩
     ·exact Nat.lt_succ_self _
   ·rw [refN_end (by omega)] at hres
    subst hres
    obtain ⟨n, ls, ar, cs⟩ := b
    dsimp only at hbl ⊢
    repeat' first | refine Zad rfl ?_ | refine Zac ?_ | refine wR ?_ | (refine Zaa rfl rfl (fun hc => ?_) (fun hc => ?_) <;> try simp only [hcL] at hc) | (refine Zab _ rfl rfl (fun hc => ?_) (fun hc => ?_) <;> (try simp only [hcL] at hc) <;> try omega) | simp (disch := omega) only [go_sem, simprocAttr, hbl] | apply And.intro | omega | decide +kernel
    refine ⟨_, _, _, _, rfl, ?_⟩
    simp (disch := omega) only [go_sem, simprocAttr, toD]
end Go.Proofs.YtldbcbclhpcofaaGreat
namespace Go.Proofs.YtldbcbclhpcofaaGreat
open Go Go.PS Go.Proofs
set_option maxRecDepth 100000
attribute [local irreducible] Zaw wpG Zah Zai

end Go.Proofs.YtldbcbclhpcofaaGreat
namespace Go.Proofs.YtldbcbclhpcofaaGreat
open Go Go.PS Go.Proofs
set_option maxRecDepth 100000
attribute [local irreducible] Zaw wpG Zah Zai

end Go.Proofs.YtldbcbclhpcofaaGreat
namespace Go.Proofs.YtldbcbclhpcofaaGreat
open Go Go.PS Go.Proofs
open Go.Bd (sm sumC Part)
set_option maxRecDepth 100000
attribute [local irreducible] Zaw wpG Zah Zai

end Go.Proofs.YtldbcbclhpcofaaGreat
namespace Go.Proofs.YtldbcbclhpcofaaGreat
open Go Go.PS Go.Proofs
set_option maxRecDepth 100000
attribute [local irreducible] Zaw wpG Zah Zai

set_option maxHeartbeats 4000000 in
theorem bRun0_spec (a : Lv) (hw : wide a) (hv : Zax a = true) : Zah Tryz.prog 37 [lvD a, .int 0] (.tup [lvD a, .int (Zbf a)]) := by
 have h1 := Zbw a hw
 rw [hv] at h1
 obtain ⟨t1, t2⟩ := Zcm hv
 have h2 := copied_spec a hv
 have h3 := Total_spec a hw (by omega)
 generalize Zbf a = t at *
 obtain ⟨n, ls, ar, cs⟩ := a
 dsimp only at *
 refine Zaf Tryz.func37 rfl (by decide +kernel) (Nat.le_of_ble_eq_true rfl) ?_
 intro hat B X w0
 repeat' first | refine Zad rfl ?_ | refine Zac ?_ | refine wR ?_ | (refine rc (h1) rfl ?_ ?_; (· first | rfl | simp (disch := omega) only [go_sem, simprocAttr])) | (refine rc (h2) rfl ?_ ?_; (· first | rfl | simp (disch := omega) only [go_sem, simprocAttr])) | (refine rc (h3) rfl ?_ ?_; (· first | rfl | simp (disch := omega) only [go_sem, simprocAttr])) | (refine Zaa rfl rfl (fun hc => ?_) (fun hc => ?_) <;> try simp only [hcL] at hc) | (refine Zab _ rfl rfl (fun hc => ?_) (fun hc => ?_) <;> (try simp only [hcL] at hc) <;> try omega) | simp (disch := omega) only [go_sem, simprocAttr] | apply And.intro | omega | decide +kernel
 refine Zao (κ := Nat) (fun (k : Nat) => k = 0) (fun (k : Nat) => [(4, .ptr 4 0 0 0), (6, .ptr 6 0 0 0), (7, .int t), (20, .int 0), (21, .int k)]) (fun (k : Nat) => [(4, .cells [.int 0, .nilS, .nilS, .nilS]), (6, .cells [.int n, .d (Zaj ls), .d (Zal ar), .d (Zaj cs)])]) (fun (k : Nat) => 0) 0 ?_ ?_ ?_
 ·rfl
 ·exact eL [] _ _ (by refine ⟨?_, ?_⟩ <;> (repeat' first | exact fmn | refine fmc ⟨(by first | rfl | (simp (disch := omega) only [go_sem, simprocAttr, inL]; first | done | omega | (congr 1; done))), ?_⟩); done)
 ·rintro k rfl
  repeat' first | refine Zad rfl ?_ | refine Zac ?_ | refine wR ?_ | (refine Zaa rfl rfl (fun hc => ?_) (fun hc => ?_) <;> try simp only [hcL] at hc) | (refine Zab _ rfl rfl (fun hc => ?_) (fun hc => ?_) <;> (try simp only [hcL] at hc) <;> try omega) | simp (disch := omega) only [go_sem, simprocAttr] | apply And.intro | omega | decide +kernel
  refine ⟨_, rfl, ⟨_, _, _, _, rfl, ?_⟩, Zaq rfl, trivial⟩
  simp (disch := omega) only [go_sem, simprocAttr, toD]
set_option maxHeartbeats 4000000 in
theorem oRun0_spec (a : Lv) (hw : wide a) (hv : Zax a = true) (har : a.2.2.1.length ≤ 700) : Zah Tryz.prog 17 [lvD a, .int 0] (.tup [lvD (Zci a), .int (Zbf (Zci a)), .int 0]) := by
 have h1 := Zbw a hw
 rw [hv] at h1
 obtain ⟨t1, t2⟩ := Zcm hv
 have hb := bRun0_spec a hw hv
 have h3 := Refine_spec a hw har
 rw [if_pos hv] at h3
 have hK2 := (refine_ok hv hw).1
 have h4 := Total_spec (Zci a) hK2.wd (by rw [hK2.len]; omega)
 generalize Zci a = Q at *
 generalize Zbf a = tp at *
 generalize Zbf Q = tq at *
 clear hK2
 obtain ⟨n1, ls1, ar1, cs1⟩ := Q
 obtain ⟨n, ls, ar, cs⟩ := a
 dsimp only at *
 refine Zaf Tryz.func17 rfl (by decide +kernel) (Nat.le_of_ble_eq_true rfl) ?_
 intro hat B X w0
 repeat' first | refine Zad rfl ?_ | refine Zac ?_ | refine wR ?_ | (refine rc (h1) rfl ?_ ?_; (· first | rfl | simp (disch := omega) only [go_sem, simprocAttr, List.append_eq])) | (refine rc (hb) rfl ?_ ?_; (· first | rfl | simp (disch := omega) only [go_sem, simprocAttr, List.append_eq])) | (refine rc (h3) rfl ?_ ?_; (· first | rfl | simp (disch := omega) only [go_sem, simprocAttr, List.append_eq])) | (refine rc (h4) rfl ?_ ?_; (· first | rfl | simp (disch := omega) only [go_sem, simprocAttr, List.append_eq])) | (refine Zaa rfl rfl (fun hc => ?_) (fun hc => ?_) <;> try simp only [hcL] at hc) | (refine Zab _ rfl rfl (fun hc => ?_) (fun hc => ?_) <;> (try simp only [hcL] at hc) <;> try omega) | simp (disch := omega) only [go_sem, simprocAttr, List.append_eq] | apply And.intro | omega | decide +kernel
 refine ⟨_, rfl, ⟨_, _, _, _, rfl, ?_⟩, Zaq rfl, Zaq rfl, trivial⟩
 simp (disch := omega) only [go_sem, simprocAttr, toD]
theorem oRunN_spec (a : Lv) (hw : wide a) (hv : Zax a = true) : Zah Tryz.prog 17 [lvD a, .int (-1)] (.tup [lvD lv0, .int 0, .int 1]) := by
 have h1 := Zbw a hw
 rw [hv] at h1
 refine Zaf Tryz.func17 rfl (by decide +kernel) (Nat.le_of_ble_eq_true rfl) ?_
 intro hat B X w0
 repeat' first | refine Zad rfl ?_ | refine Zac ?_ | refine wR ?_ | (refine rc (h1) rfl ?_ ?_; (· first | rfl | simp (disch := omega) only [go_sem, simprocAttr, List.append_eq])) | (refine Zaa rfl rfl (fun hc => ?_) (fun hc => ?_) <;> try simp only [hcL] at hc) | (refine Zab _ rfl rfl (fun hc => ?_) (fun hc => ?_) <;> (try simp only [hcL] at hc) <;> try omega) | simp (disch := omega) only [go_sem, simprocAttr, List.append_eq] | apply And.intro | omega | decide +kernel
 refine ⟨_, rfl, ⟨_, _, _, _, rfl, ?_⟩, Zaq rfl, Zaq rfl, trivial⟩
 simp (disch := omega) only [go_sem, simprocAttr, toD]
 rfl
end Go.Proofs.YtldbcbclhpcofaaGreat
namespace Go.Proofs.YtldbcbclhpcofaaGreat
open Go Go.PS Go.Proofs
open Go.Bd (sm sumC Part)
set_option maxRecDepth 100000
attribute [local irreducible] Zaw wpG Zah Zai

/-! The chapter's example. -/
def exL : Lv := (6, [[0, 1, 2], [3, 4, 5]], [(0, 5), (1, 4), (2, 3)], [[0, 5], [1, 4], [2, 3]])
def exB : Lv := (6, [[2, 1, 0], [3, 4, 5]], [(0, 5), (1, 4), (2, 3)], [[0, 5], [1, 4], [2, 3]])
theorem exL_valid : Zax exL = true := by
 simp only [Zax, sortLv, exL, List.map_cons, List.map_nil, ← insN_eq]
 decide +kernel
theorem exB_valid : Zax exB = true := by
 simp only [Zax, sortLv, exB, List.map_cons, List.map_nil, ← insN_eq]
 decide +kernel
def exM1 : List (List Int) := [[0, 1, 1], [0, 0, 1], [0, 0, 0]]
def exM2 : List (List Int) := [[0, 0, 0], [1, 0, 0], [1, 1, 0]]
theorem ex_m1 : Zat exL 0 1 = exM1 := by simp only [Zat, matOk, exL_valid]; decide +kernel
theorem ex_m2 : Zat exL 0 (-1) = [] := by simp only [Zat, matOk, exL_valid]; decide +kernel
theorem ex_m3 : Zat exB 0 1 = exM2 := by simp only [Zat, matOk, exB_valid]; decide +kernel
theorem ex_m4 : Zat exB 0 (-1) = [] := by simp only [Zat, matOk, exB_valid]; decide +kernel
theorem ex_m5 : Zat exB 1 0 = exM2 := by simp only [Zat, matOk, exB_valid]; decide +kernel
theorem ex_m6 : Zat exB 1 2 = [] := by simp only [Zat, matOk, exB_valid]; decide +kernel
theorem ex_t1 : Zbf exL = 3 := by simp only [Zbf, Zbj, Zat, matOk, exL_valid]; decide +kernel
theorem ex_t2 : Zbf exB = 0 := by simp only [Zbf, Zbj, Zat, matOk, exB_valid]; decide +kernel
theorem orM_of {a : Lv} {i : Nat} {y : List Int} {p q : List (List Int)} (hy : lstN a.2.1 i = y) (hp : Zat a i ((i : Int) - 1) = p) (hq : Zat a i ((i : Int) + 1) = q) :
  orM a i = sqM (fun u v => 0 + Zan p u v + Zan q u v) y.length := by
 have h : accC a [] y 0 i 2 = fun u v => 0 + Zan p u v + Zan q u v := by
  funext u v
  have e := accC_zero a i u v
  rw [hy] at e
  show accC a [] y 0 i 0 u v + Zan (Zat a i ((i : Int) - 1)) u v + Zan (Zat a i ((i : Int) + 1)) u v = _
  rw [e, hp, hq]
 rw [orM, stM, hy, h]
theorem ex_o1 : orM exL 0 = sqM (fun u v => 0 + Zan [] u v + Zan exM1 u v) 3 := orM_of (y := [0, 1, 2]) rfl ex_m2 ex_m1
theorem ex_o2 : orM exB 0 = sqM (fun u v => 0 + Zan [] u v + Zan exM2 u v) 3 := orM_of (y := [2, 1, 0]) rfl ex_m4 ex_m3
theorem ex_o3 : orM exB 1 = sqM (fun u v => 0 + Zan exM2 u v + Zan [] u v) 3 := orM_of (y := [3, 4, 5]) rfl ex_m5 ex_m6
theorem ex_b1 : betB exL 0 = true := by rw [betB, ex_o1]; decide +kernel
theorem ex_b2 : betB exB 0 = false := by rw [betB, ex_o2]; decide +kernel
theorem ex_b3 : betB exB 1 = false := by rw [betB, ex_o3]; decide +kernel
theorem ex_f1 : (betF exL 0).2 = true := by rw [betF, if_neg (by decide)]; exact ex_b1
theorem ex_f2 : (betF exB 0).2 = false := by rw [betF, if_neg (by decide)]; exact ex_b2
theorem ex_f3 : (betF exB 1).2 = false := by rw [betF, if_neg (by decide)]; exact ex_b3
theorem ex_p1 : bestPut exL 0 = exB := by rw [bestPut, ex_o1]; decide +kernel
theorem ex_r1 : Zci exL = exB := by
 have hm : refMs exL 0 = 11 := by rw [refMs, ex_t1]; rfl
 rw [Zci, hm, refN, if_pos (by decide), if_pos ex_f1, ex_p1, refN, if_pos (by decide), if_neg (by rw [ex_f2]; decide), refN, if_pos (by decide), if_neg (by rw [ex_f3]; decide), refN, if_neg (by decide)]
theorem ex_e1 : exaF exL 0 1 = (exB, 0) := by
 have hm : matOk exL 0 1 = true := by simp only [matOk, exL_valid]; decide
 rw [exaF, if_neg (by rw [hm]; decide), if_neg (by decide), ex_m1]
 decide +kernel
theorem ex_q1 : optF exL 0 = false := by
 rw [optF, exL_valid]
 show (true && _ && _ && !betB exL 0) = false
 rw [ex_b1]; simp
theorem ex_q2 : optF exB 0 = true := by
 rw [optF, exB_valid]
 show (true && decide ((0 : Int) ≤ 0 ∧ (0 : Int) < exB.2.1.length) && decide (¬ 8 < (lstN exB.2.1 0).length) && !betB exB 0) = true
 rw [ex_b2]; decide
theorem wide_ex : wide exL ∧ wide exB := by
 constructor <;>
 ·intro y hy
  simp only [exL, exB, List.mem_cons, List.not_mem_nil, or_false] at hy
  rcases hy with rfl | rfl <;> decide
theorem ex_same : sameLv exB exB = true := by decide +kernel
set_option maxHeartbeats 4000000 in
theorem oAwake_spec : Zah Tryz.prog 9 [] (.bool true) := by
 have h1 := Exact_spec exL 0 1 wide_ex.1
 rw [ex_e1] at h1
 have h2 := Refine_spec exL wide_ex.1 (by decide)
 rw [if_pos exL_valid, ex_r1] at h2
 have h3 := oRun0_spec exL wide_ex.1 exL_valid (by decide)
 rw [ex_r1, ex_t2] at h3
 have h4 := oRunN_spec exL wide_ex.1 exL_valid
 have h5 := rSame_spec exB exB
 rw [ex_same] at h5
 have h6 := Optimal_spec exL 0 wide_ex.1 (by decide)
 rw [ex_q1] at h6
 have h7 := Optimal_spec exB 0 wide_ex.2 (by decide)
 rw [ex_q2] at h7
 simp only [exL, exB, lv0, List.map_cons, List.map_nil] at h1 h2 h3 h4 h5 h6 h7
 refine Zaf Tryz.func9 rfl (by decide +kernel) (Nat.le_of_ble_eq_true rfl) ?_
 intro hat B X w0
 repeat' first | refine Zad rfl ?_ | refine Zac ?_ | refine wR ?_ | (refine rc (h1) rfl ?_ ?_; (· first | rfl | simp (disch := omega) only [go_sem, simprocAttr, List.append_eq, List.map_cons, List.map_nil])) | (refine rc (h2) rfl ?_ ?_; (· first | rfl | simp (disch := omega) only [go_sem, simprocAttr, List.append_eq, List.map_cons, List.map_nil])) | (refine rc (h3) rfl ?_ ?_; (· first | rfl | simp (disch := omega) only [go_sem, simprocAttr, List.append_eq, List.map_cons, List.map_nil])) | (refine rc (h4) rfl ?_ ?_; (· first | rfl | simp (disch := omega) only [go_sem, simprocAttr, List.append_eq, List.map_cons, List.map_nil])) | (refine rc (h5) rfl ?_ ?_; (· first | rfl | simp (disch := omega) only [go_sem, simprocAttr, List.append_eq, List.map_cons, List.map_nil])) | (refine rc (h6) rfl ?_ ?_; (· first | rfl | simp (disch := omega) only [go_sem, simprocAttr, List.append_eq, List.map_cons, List.map_nil])) | (refine rc (h7) rfl ?_ ?_; (· first | rfl | simp (disch := omega) only [go_sem, simprocAttr, List.append_eq, List.map_cons, List.map_nil])) | (refine Zaa rfl rfl (fun hc => ?_) (fun hc => ?_) <;> try simp only [hcL] at hc) | (refine Zab _ rfl rfl (fun hc => ?_) (fun hc => ?_) <;> (try simp only [hcL] at hc) <;> try omega) | simp (disch := omega) only [go_sem, simprocAttr, List.append_eq, List.map_cons, List.map_nil] | apply And.intro | omega | decide +kernel
 exact Zar rfl
end Go.Proofs.YtldbcbclhpcofaaGreat
namespace Go.Proofs.YtldbcbclhpcofaaGreat
open Go Go.PS Go.Proofs
open Go.Bd (sm sumC Part)
set_option maxRecDepth 100000
attribute [local irreducible] Zaw wpG Zah Zai

theorem putL_twice (a : Lv) (i : Nat) (y z : List Int) : putL (putL a i y) i z = putL a i z := by
 show (a.1, (a.2.1.set i y).set i z, a.2.2.1, a.2.2.2) = _
 rw [List.set_set]; rfl
theorem perm_as {y z : List Int} (hn : y.Nodup) (h : z.Perm y) : ∃ o, Part y.length 0 o ∧ Zbk y o = z := by
 have hzn : z.Nodup := h.nodup_iff.2 hn
 have hlt : ∀ v, v ∈ z → y.idxOf v < y.length := fun v hv => List.idxOf_lt_length_iff.2 (h.mem_iff.1 hv)
 have hget : ∀ v, v ∈ z → (y[y.idxOf v]?).getD 0 = v := fun v hv => by
  rw [List.getElem?_eq_getElem (hlt v hv), List.getElem_idxOf]; rfl
 refine ⟨z.map fun v => y.idxOf v, ⟨?_, fun k hk => ?_, by rw [List.length_map, h.length_eq, Nat.add_zero]⟩, ?_⟩
 ·rw [List.Nodup, List.pairwise_map]
  refine List.Pairwise.imp_of_mem (fun {u v} hu hv hne e => hne ?_) hzn
  rw [← hget u hu, e, hget v hv]
 ·obtain ⟨v, hv, rfl⟩ := List.mem_map.1 hk
  exact hlt v hv
 ·rw [Zbk, List.map_map]
  refine Eq.trans (List.map_congr_left fun v hv => ?_) (List.map_id z)
  exact hget v hv
theorem put_between {a : Lv} (hw : wide a) {i f : Nat} (hm : matOk a i f = true) {y : List Int} (hy : a.2.1[i]? = some y) {o : List Nat} (ho : Part y.length 0 o) :
  Zbj (putL a i (Zbk y o)) (min (i : Int) f) = sumC (Zan (Zat a i f)) o := by
 obtain ⟨hv, hi, hf, hif⟩ := matOk_in hm
 have hv' := put_valid hv hy ho
 have hil : i < a.2.1.length := by omega
 have hget : ∀ j, j ≠ i → (putL a i (Zbk y o)).2.1[j]? = a.2.1[j]? := fun j hj => List.getElem?_set_ne (Ne.symm hj)
 have hget2 : (putL a i (Zbk y o)).2.1[i]? = some (Zbk y o) := List.getElem?_set_self hil
 rcases hif with h | h
 ·obtain ⟨k, rfl⟩ : ∃ k, i = k + 1 := ⟨i - 1, by omega⟩
  obtain rfl : f = k := by omega
  obtain ⟨x, p, hn⟩ := near_of hv (i := f) (by omega)
  obtain rfl : p = y := by have := hn.hz; rw [hy] at this; cases this; rfl
  have hn' : Near (putL a (f + 1) (Zbk p o)) f x (Zbk p o) := ⟨hv', (hget f (by omega)).trans hn.hy, hget2⟩
  rw [show min ((f + 1 : Nat) : Int) (f : Int) = (f : Int) by omega, hn.perm_dn hn' rfl ho]
  rfl
 ·obtain rfl : f = i + 1 := by omega
  obtain ⟨p, z, hn⟩ := near_of hv (i := i) (by omega)
  obtain rfl : p = y := by have := hn.hy; rw [hy] at this; cases this; rfl
  have hn' : Near (putL a i (Zbk p o)) i (Zbk p o) z := ⟨hv', hget2, (hget (i + 1) (by omega)).trans hn.hz⟩
  rw [show min (i : Int) ((i + 1 : Nat) : Int) = (i : Int) by omega, hn.perm_up hn' rfl ho]
  rfl
theorem exact_least {a : Lv} (hw : wide a) {i f : Nat} (hm : matOk a i f = true) {y z : List Int} (hy : a.2.1[i]? = some y) (hz : z.Perm y) :
  Zbj (putL a i (Zbk y (Zbl (Zat a i f)).1)) (min (i : Int) f) ≤ Zbj (putL a i z) (min (i : Int) f) := by
 obtain ⟨hv, hi, hf, hif⟩ := matOk_in hm
 obtain ⟨o, ho, rfl⟩ := perm_as (Zcn hv hy) hz
 have hp := matF_part hm
 have hl := matF_len hm
 rw [Int.toNat_natCast, Zbn hy] at hp hl
 rw [put_between hw hm hy hp, put_between hw hm hy ho, ← (bestAll_part (Zat a i f)).2]
 exact bestAll_le _ (by rw [hl]; exact ho)
set_option maxHeartbeats 16000000 in
theorem lawBest (a : Lv) (i f : Int) (o : List Int) (hw : wide a) : Zah Tryz.prog 7 [lvD a, .ag [.int i, .int f], Zak o] (.bool true) := by
 have h9 := oAwake_spec
 have h0 := Zbv a hw
 rw [← valid_same] at h0
 by_cases hall : (a.2.1.length ≤ 12 ∧ a.2.2.1.length ≤ 60 ∧ o.length ≤ 20) ∧ Zax a = true
 ·obtain ⟨⟨c1, c2, c3⟩, hv⟩ := hall
  rw [hv] at h0
  have h1 := Exact_spec a i f hw
  rcases hm : matOk a i f with _ | _
  ·rw [exaF, if_pos hm] at h1
   obtain ⟨n, ls, ar, cs⟩ := a
   dsimp only at *
   refine Zaf Tryz.func7 rfl (by decide +kernel) (Nat.le_of_ble_eq_true rfl) ?_
   intro hat B X w0
   repeat' first | refine Zad rfl ?_ | refine Zac ?_ | refine wR ?_ | (refine rc (h0) rfl ?_ ?_; (· first | rfl | simp (disch := omega) only [go_sem, simprocAttr, List.append_eq, Nat.zero_mul, Nat.one_mul, Nat.zero_add])) | (refine rc (h1) rfl ?_ ?_; (· first | rfl | simp (disch := omega) only [go_sem, simprocAttr, List.append_eq, Nat.zero_mul, Nat.one_mul, Nat.zero_add])) | (refine rc (h9) rfl ?_ ?_; (· first | rfl | simp (disch := omega) only [go_sem, simprocAttr, List.append_eq, Nat.zero_mul, Nat.one_mul, Nat.zero_add])) | (refine Zaa rfl rfl (fun hc => ?_) (fun hc => ?_) <;> try simp only [hcL] at hc) | (refine Zab _ rfl rfl (fun hc => ?_) (fun hc => ?_) <;> (try simp only [hcL] at hc) <;> try omega) | simp (disch := omega) only [go_sem, simprocAttr, List.append_eq, Nat.zero_mul, Nat.one_mul, Nat.zero_add] | apply And.intro | omega | decide +kernel
   all_goals exact Zar rfl
  ·obtain ⟨_, hi, hf, hif⟩ := matOk_in hm
   obtain ⟨i, rfl⟩ : ∃ n : Nat, i = n := ⟨i.toNat, by omega⟩
   obtain ⟨f, rfl⟩ : ∃ n : Nat, f = n := ⟨f.toNat, by omega⟩
   obtain ⟨y, hy⟩ := Zam (l := a.2.1) (k := i) (by omega)
   have t2 := (Zcm hv).2
   have hyl := Zbp (List.mem_of_getElem? hy)
   rw [exaF, if_neg (by rw [hm]; decide), Int.toNat_natCast, Zbn hy] at h1
   by_cases h8 : 8 < y.length
   ·rw [if_pos h8] at h1
    obtain ⟨n, ls, ar, cs⟩ := a
    dsimp only at *
    refine Zaf Tryz.func7 rfl (by decide +kernel) (Nat.le_of_ble_eq_true rfl) ?_
    intro hat B X w0
    repeat' first | refine Zad rfl ?_ | refine Zac ?_ | refine wR ?_ | (refine rc (h0) rfl ?_ ?_; (· first | rfl | simp (disch := omega) only [go_sem, simprocAttr, List.append_eq, Nat.zero_mul, Nat.one_mul, Nat.zero_add])) | (refine rc (h1) rfl ?_ ?_; (· first | rfl | simp (disch := omega) only [go_sem, simprocAttr, List.append_eq, Nat.zero_mul, Nat.one_mul, Nat.zero_add])) | (refine rc (h9) rfl ?_ ?_; (· first | rfl | simp (disch := omega) only [go_sem, simprocAttr, List.append_eq, Nat.zero_mul, Nat.one_mul, Nat.zero_add])) | (refine Zaa rfl rfl (fun hc => ?_) (fun hc => ?_) <;> try simp only [hcL] at hc) | (refine Zab _ rfl rfl (fun hc => ?_) (fun hc => ?_) <;> (try simp only [hcL] at hc) <;> try omega) | simp (disch := omega) only [go_sem, simprocAttr, List.append_eq, Nat.zero_mul, Nat.one_mul, Nat.zero_add] | apply And.intro | omega | decide +kernel
    all_goals exact Zar rfl
   ·rw [if_neg h8] at h1
    dsimp only at h1
    have hp := matF_part hm
    rw [Int.toNat_natCast, Zbn hy] at hp
    have hK0 := Kin.refl hv hw
    have hzp : (Zbk y (Zbl (Zat a i f)).1).Perm y := permL_perm (Zcn hv hy) hp
    have hK := hK0.put hy hzp
    have hX : ∃ X, putL a i (Zbk y (Zbl (Zat a i f)).1) = X := ⟨_, rfl⟩
    obtain ⟨X, hX⟩ := hX
    have hlow := fun (z : List Int) (hz : z.Perm y) => exact_least hw hm hy hz
    have hself := hlow y (List.Perm.refl _)
    rw [put_self hy] at hself
    rw [hX] at hK h1 hlow hself
    -- Exact again
    have hXy : X.2.1[i]? = some (Zbk y (Zbl (Zat a i f)).1) := by rw [← hX]; exact List.getElem?_set_self (by omega)
    have hmX : matOk X i f = true := by
     have := hK.len
     simp only [matOk, hK.ok, Bool.true_and, Bool.and_eq_true, decide_eq_true_eq]
     omega
    have h2 := Exact_spec X i f hK.wd
    have hl2 : (Zbk y (Zbl (Zat a i f)).1).length = y.length := hzp.length_eq
    rw [exaF, if_neg (by rw [hmX]; decide), Int.toNat_natCast, Zbn hXy, if_neg (by omega)] at h2
    dsimp only at h2
    have hpX := matF_part hmX
    rw [Int.toNat_natCast, Zbn hXy] at hpX
    have hlowX := exact_least hK.wd hmX hXy (List.Perm.refl _)
    rw [put_self hXy] at hlowX
    have hYp : (Zbk (Zbk y (Zbl (Zat a i f)).1) (Zbl (Zat X i f)).1).Perm y := (permL_perm (Zcn hK.ok hXy) hpX).trans hzp
    have hback := hlow _ hYp
    have hYK := hK.put hXy (permL_perm (Zcn hK.ok hXy) hpX)
    have hYe : putL X i (Zbk (Zbk y (Zbl (Zat a i f)).1) (Zbl (Zat X i f)).1) = putL a i (Zbk (Zbk y (Zbl (Zat a i f)).1) (Zbl (Zat X i f)).1) := by rw [← hX, putL_twice]
    rw [← hYe] at hback
    generalize putL X i (Zbk (Zbk y (Zbl (Zat a i f)).1) (Zbl (Zat X i f)).1) = Y at *
    -- the numbers
    have bb : ∀ {b : Lv}, wide b → Zah Tryz.prog 23 [lvD b, .int (min (i : Int) f)] (.int (Zbj b (min (i : Int) f))) := fun {b} hb => by
     have h := rBetween_spec b (min (i : Int) f) hb
     rw [← between_same] at h; exact h
    have b1 := bb hw
    have b2 := bb hK.wd
    have b3 := bb hYK.wd
    have h3 := Zbv X hK.wd
    rw [← valid_same, hK.ok] at h3
    -- the order that is given
    have h4 := rReorder_spec a i o hw (by omega)
    have hor : (Zch a i o).2 = 0 → Zbj X (min (i : Int) f) ≤ Zbj (Zch a i o).1 (min (i : Int) f) := fun he => by
     have hso : sortL o = sortL y := by
      rw [Zch, if_neg (by rw [hv]; decide), if_neg (by omega), Int.toNat_natCast, hy, Option.getD_some] at he
      by_cases hq : sortL o = sortL y
      ·exact hq
      ·rw [if_pos hq] at he; cases he
     have hop : o.Perm y := (sortL_perm o).symm.trans (hso ▸ sortL_perm y)
     rw [reorder_perm hv hy hop]
     exact hlow o hop
    have b4 := bb (reorder_wide (a := a) (i := i) (o := o) hw (by omega))
    have heq : Zbj Y (min (i : Int) f) = Zbj X (min (i : Int) f) := by omega
    rw [heq] at b3
    have hmn : (if (f : Int) < i then (f : Int) else i) = min (i : Int) f := by split <;> omega
    clear hlow hlowX hback heq bb hYe hYp hpX hXy hX hK hYK hK0 hzp hp
    generalize Zbj X (min (i : Int) f) = nX at *
    generalize Zbj a (min (i : Int) f) = nA at *
    generalize Zch a i o = R at *
    obtain ⟨⟨n3, ls3, ar3, cs3⟩, e⟩ := R
    dsimp only at hor b4 h4
    generalize Zbj (n3, ls3, ar3, cs3) (min (i : Int) f) = nR at *
    generalize min (i : Int) (f : Int) = kk at *
    obtain ⟨n1, ls1, ar1, cs1⟩ := X
    obtain ⟨n2, ls2, ar2, cs2⟩ := Y
    obtain ⟨n, ls, ar, cs⟩ := a
    dsimp only at *
    have hnA : ¬ nA < nX := by omega
    by_cases he : e = 0
    ·have hnR := hor he
     refine Zaf Tryz.func7 rfl (by decide +kernel) (Nat.le_of_ble_eq_true rfl) ?_
     intro hat B X w0
     repeat' first | refine Zad rfl ?_ | refine Zac ?_ | refine wR ?_ | (refine rc (h0) rfl ?_ ?_; (· first | rfl | simp (disch := omega) only [go_sem, simprocAttr, List.append_eq, Nat.zero_mul, Nat.one_mul, Nat.zero_add, hmn, hnA, he])) | (refine rc (h1) rfl ?_ ?_; (· first | rfl | simp (disch := omega) only [go_sem, simprocAttr, List.append_eq, Nat.zero_mul, Nat.one_mul, Nat.zero_add, hmn, hnA, he])) | (refine rc (h4) rfl ?_ ?_; (· first | rfl | simp (disch := omega) only [go_sem, simprocAttr, List.append_eq, Nat.zero_mul, Nat.one_mul, Nat.zero_add, hmn, hnA, he])) | (refine rc (b1) rfl ?_ ?_; (· first | rfl | simp (disch := omega) only [go_sem, simprocAttr, List.append_eq, Nat.zero_mul, Nat.one_mul, Nat.zero_add, hmn, hnA, he])) | (refine rc (b2) rfl ?_ ?_; (· first | rfl | simp (disch := omega) only [go_sem, simprocAttr, List.append_eq, Nat.zero_mul, Nat.one_mul, Nat.zero_add, hmn, hnA, he])) | (refine rc (b3) rfl ?_ ?_; (· first | rfl | simp (disch := omega) only [go_sem, simprocAttr, List.append_eq, Nat.zero_mul, Nat.one_mul, Nat.zero_add, hmn, hnA, he])) | (refine rc (b4) rfl ?_ ?_; (· first | rfl | simp (disch := omega) only [go_sem, simprocAttr, List.append_eq, Nat.zero_mul, Nat.one_mul, Nat.zero_add, hmn, hnA, he])) | (refine rc (h2) rfl ?_ ?_; (· first | rfl | simp (disch := omega) only [go_sem, simprocAttr, List.append_eq, Nat.zero_mul, Nat.one_mul, Nat.zero_add, hmn, hnA, he])) | (refine rc (h3) rfl ?_ ?_; (· first | rfl | simp (disch := omega) only [go_sem, simprocAttr, List.append_eq, Nat.zero_mul, Nat.one_mul, Nat.zero_add, hmn, hnA, he])) | (refine rc (h9) rfl ?_ ?_; (· first | rfl | simp (disch := omega) only [go_sem, simprocAttr, List.append_eq, Nat.zero_mul, Nat.one_mul, Nat.zero_add, hmn, hnA, he])) | (refine Zaa rfl rfl (fun hc => ?_) (fun hc => ?_) <;> try simp only [hcL] at hc) | (refine Zab _ rfl rfl (fun hc => ?_) (fun hc => ?_) <;> (try simp only [hcL] at hc) <;> try omega) | simp (disch := omega) only [go_sem, simprocAttr, List.append_eq, Nat.zero_mul, Nat.one_mul, Nat.zero_add, hmn, hnA, he] | apply And.intro | omega | decide +kernel
     all_goals exact Zar rfl
    ·refine Zaf Tryz.func7 rfl (by decide +kernel) (Nat.le_of_ble_eq_true rfl) ?_
     intro hat B X w0
     repeat' first | refine Zad rfl ?_ | refine Zac ?_ | refine wR ?_ | (refine rc (h0) rfl ?_ ?_; (· first | rfl | simp (disch := omega) only [go_sem, simprocAttr, List.append_eq, Nat.zero_mul, Nat.one_mul, Nat.zero_add, hmn, hnA, he])) | (refine rc (h1) rfl ?_ ?_; (· first | rfl | simp (disch := omega) only [go_sem, simprocAttr, List.append_eq, Nat.zero_mul, Nat.one_mul, Nat.zero_add, hmn, hnA, he])) | (refine rc (h4) rfl ?_ ?_; (· first | rfl | simp (disch := omega) only [go_sem, simprocAttr, List.append_eq, Nat.zero_mul, Nat.one_mul, Nat.zero_add, hmn, hnA, he])) | (refine rc (b1) rfl ?_ ?_; (· first | rfl | simp (disch := omega) only [go_sem, simprocAttr, List.append_eq, Nat.zero_mul, Nat.one_mul, Nat.zero_add, hmn, hnA, he])) | (refine rc (b2) rfl ?_ ?_; (· first | rfl | simp (disch := omega) only [go_sem, simprocAttr, List.append_eq, Nat.zero_mul, Nat.one_mul, Nat.zero_add, hmn, hnA, he])) | (refine rc (b3) rfl ?_ ?_; (· first | rfl | simp (disch := omega) only [go_sem, simprocAttr, List.append_eq, Nat.zero_mul, Nat.one_mul, Nat.zero_add, hmn, hnA, he])) | (refine rc (b4) rfl ?_ ?_; (· first | rfl | simp (disch := omega) only [go_sem, simprocAttr, List.append_eq, Nat.zero_mul, Nat.one_mul, Nat.zero_add, hmn, hnA, he])) | (refine rc (h2) rfl ?_ ?_; (· first | rfl | simp (disch := omega) only [go_sem, simprocAttr, List.append_eq, Nat.zero_mul, Nat.one_mul, Nat.zero_add, hmn, hnA, he])) | (refine rc (h3) rfl ?_ ?_; (· first | rfl | simp (disch := omega) only [go_sem, simprocAttr, List.append_eq, Nat.zero_mul, Nat.one_mul, Nat.zero_add, hmn, hnA, he])) | (refine rc (h9) rfl ?_ ?_; (· first | rfl | simp (disch := omega) only [go_sem, simprocAttr, List.append_eq, Nat.zero_mul, Nat.one_mul, Nat.zero_add, hmn, hnA, he])) | (refine Zaa rfl rfl (fun hc => ?_) (fun hc => ?_) <;> try simp only [hcL] at hc) | (refine Zab _ rfl rfl (fun hc => ?_) (fun hc => ?_) <;> (try simp only [hcL] at hc) <;> try omega) | simp (disch := omega) only [go_sem, simprocAttr, List.append_eq, Nat.zero_mul, Nat.one_mul, Nat.zero_add, hmn, hnA, he] | apply And.intro | omega | decide +kernel
     all_goals exact Zar rfl
 ·have hn1 := fun h1 h2 => hall ⟨h1, h2⟩
  rcases hv : Zax a with _ | _ <;> rw [hv] at h0 hn1
  ·obtain ⟨n, ls, ar, cs⟩ := a
   dsimp only at *
   refine Zaf Tryz.func7 rfl (by decide +kernel) (Nat.le_of_ble_eq_true rfl) ?_
   intro hat B X w0
   have hl1 := Zbs 0 1 hat rfl rfl
   have hl2 := Zbs 0 2 hat rfl rfl
   have hl3 := at_len 2 hat rfl
   rw [List.length_map] at hl1 hl2 hl3
   dsimp only at hl1 hl2
   repeat' first | refine Zad rfl ?_ | refine Zac ?_ | refine wR ?_ | (refine rc (h0) rfl ?_ ?_; (· first | rfl | simp (disch := omega) only [go_sem, simprocAttr, List.append_eq, Nat.zero_mul, Nat.one_mul, Nat.zero_add])) | (refine rc (h9) rfl ?_ ?_; (· first | rfl | simp (disch := omega) only [go_sem, simprocAttr, List.append_eq, Nat.zero_mul, Nat.one_mul, Nat.zero_add])) | (refine Zaa rfl rfl (fun hc => ?_) (fun hc => ?_) <;> try simp only [hcL] at hc) | (refine Zab _ rfl rfl (fun hc => ?_) (fun hc => ?_) <;> (try simp only [hcL] at hc) <;> try omega) | simp (disch := omega) only [go_sem, simprocAttr, List.append_eq, Nat.zero_mul, Nat.one_mul, Nat.zero_add] | apply And.intro | omega | decide +kernel
   all_goals exact Zar rfl
  ·have hn : ¬ (a.2.1.length ≤ 12 ∧ a.2.2.1.length ≤ 60 ∧ o.length ≤ 20) := fun h => hn1 h rfl
   clear hn1 hall
   obtain ⟨n, ls, ar, cs⟩ := a
   dsimp only at *
   refine Zaf Tryz.func7 rfl (by decide +kernel) (Nat.le_of_ble_eq_true rfl) ?_
   intro hat B X w0
   have hl1 := Zbs 0 1 hat rfl rfl
   have hl2 := Zbs 0 2 hat rfl rfl
   have hl3 := at_len 2 hat rfl
   rw [List.length_map] at hl1 hl2 hl3
   dsimp only at hl1 hl2
   repeat' first | refine Zad rfl ?_ | refine Zac ?_ | refine wR ?_ | (refine rc (h0) rfl ?_ ?_; (· first | rfl | simp (disch := omega) only [go_sem, simprocAttr, List.append_eq, Nat.zero_mul, Nat.one_mul, Nat.zero_add])) | (refine rc (h9) rfl ?_ ?_; (· first | rfl | simp (disch := omega) only [go_sem, simprocAttr, List.append_eq, Nat.zero_mul, Nat.one_mul, Nat.zero_add])) | (refine Zaa rfl rfl (fun hc => ?_) (fun hc => ?_) <;> try simp only [hcL] at hc) | (refine Zab _ rfl rfl (fun hc => ?_) (fun hc => ?_) <;> (try simp only [hcL] at hc) <;> try omega) | simp (disch := omega) only [go_sem, simprocAttr, List.append_eq, Nat.zero_mul, Nat.one_mul, Nat.zero_add] | apply And.intro | omega | decide +kernel
   all_goals exact Zar rfl
end Go.Proofs.YtldbcbclhpcofaaGreat
