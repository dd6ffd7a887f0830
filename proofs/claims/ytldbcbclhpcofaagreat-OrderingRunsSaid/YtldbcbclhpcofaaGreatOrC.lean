/- Ordering: the program. -/
import Derived.Test.YtldbcbclhpcofaaGreatBaF
set_option linter.unusedSimpArgs false
set_option linter.unusedVariables false
namespace Go.Proofs.YtldbcbclhpcofaaGreat
open Go Go.PS Go.Proofs
open Go.Bd (sm sumC Part)
set_option maxRecDepth 100000
attribute [local irreducible] Zax wpG Zah Zai

set_option maxHeartbeats 8000000 in
theorem own_spec (a : Lv) (h : Zay a = true) : Zah Tryz.prog 36 [lvD a] (lvD a) := by
 obtain ⟨s1, s2, s3⟩ := Zcu h
 obtain ⟨t1, t2⟩ := Zcq h
 have hca := cloneA_spec a.2.2.1 (by omega)
 have hl1 : ∀ (k : Nat) x, a.2.1[k]? = some x → Zah Tryz.prog 62 [Zak x] (Zak x) := fun k x hx => cloneI_spec x (by have := Zbq (List.mem_of_getElem? hx); omega)
 have hl2 : ∀ (k : Nat) x, a.2.2.2[k]? = some x → Zah Tryz.prog 62 [Zak x] (Zak x) := fun k x hx => cloneI_spec x (by have := s3 x (List.mem_of_getElem? hx); omega)
 obtain ⟨n, ls, ar, cs⟩ := a
 dsimp only at *
 refine Zaf Tryz.func36 rfl (by decide +kernel) (Nat.le_of_ble_eq_true rfl) ?_
 intro hat B X w0
 repeat' first | refine Zad rfl ?_ | refine Zac ?_ | refine wR ?_ | (refine rc (hca) rfl ?_ ?_; (· first | rfl | simp (disch := omega) only [go_sem, simprocAttr])) | (refine Zaa rfl rfl (fun hc => ?_) (fun hc => ?_) <;> try simp only [hcL] at hc) | (refine Zab _ rfl rfl (fun hc => ?_) (fun hc => ?_) <;> (try simp only [hcL] at hc) <;> try omega) | simp (disch := omega) only [go_sem, simprocAttr] | apply And.intro | omega | decide +kernel
 refine Zbd _ (Zcl 3 1 901 1 rfl rfl rfl) ?_
 refine Zap (κ := Nat) (fun (k : Nat) => k ≤ ls.length) (fun (k : Nat) => [(1, .ptr 1 0 0 0), (2, .ptr 2 0 0 0), (3, .ptr 3 0 0 0), (15, .d (Zaj ls)), (16, .int ls.length), (17, .int k)]) (fun (k : Nat) => [(1, .cells [.int n, .d (Zaj ls), .d (Zal ar), .d (Zaj cs)]), (2, .cells [.int 0, .nilS, .nilS, .nilS]), (3, .cells [.int n, .ref 901 1 0 k k, .d (Zal ar), .nilS]), (901, .row 1 ((ls.take k).map Zak))]) (fun (k : Nat) => ls.length - k) 0 ?_ ?_ ?_
 ·exact Nat.zero_le _
 ·exact eL [] _ _ (by refine ⟨?_, ?_⟩ <;> (repeat' first | exact fmn | refine fmc ⟨(by first | rfl | (simp (disch := omega) only [go_sem, simprocAttr, inL, List.take_zero, List.map_nil]; first | done | omega | (congr 1; done))), ?_⟩); done)
 ·intro k hk
  have hlk : (ls.take k).length = k := by rw [List.length_take]; omega
  have htk : ((ls.take k).map Zak).take k = (ls.take k).map Zak := List.take_of_length_le (by rw [List.length_map, hlk]; exact Nat.le_refl _)
  rcases Nat.lt_or_ge k ls.length with hlt | hge
  ·obtain ⟨x, hx⟩ := Zan hlt
   have hc1 := hl1 k x hx
   have e1 := Zat hx
   repeat' first | refine Zad rfl ?_ | refine Zac ?_ | refine wR ?_ | (refine rc (hc1) rfl ?_ ?_; (· first | rfl | simp (disch := omega) only [go_sem, simprocAttr, hx, hlk, htk, Zbb])) | (refine Zaa rfl rfl (fun hc => ?_) (fun hc => ?_) <;> try simp only [hcL] at hc) | (refine Zab _ rfl rfl (fun hc => ?_) (fun hc => ?_) <;> (try simp only [hcL] at hc) <;> try omega) | simp (disch := omega) only [go_sem, simprocAttr, hx, hlk, htk, Zbb] | exact fun d hd => by rw [List.mem_singleton.1 hd]; rfl | apply And.intro | omega | decide +kernel
   refine ⟨k + 1, ?_, eL [(901, 26)] _ _ (by refine ⟨?_, ?_⟩ <;> (repeat' first | exact fmn | refine fmc ⟨(by first | rfl | (simp (disch := omega) only [go_sem, simprocAttr, inL, e1, htk, List.map_append, List.map_cons, List.map_nil]; first | done | omega | (congr 1; done))), ?_⟩); done), ?_⟩
   ·omega
   ·omega
  ·have : k = ls.length := by omega
   subst this
   try dsimp only
   rw [List.take_length]
   repeat' first | refine Zad rfl ?_ | refine Zac ?_ | refine wR ?_ | (refine Zaa rfl rfl (fun hc => ?_) (fun hc => ?_) <;> try simp only [hcL] at hc) | (refine Zab _ rfl rfl (fun hc => ?_) (fun hc => ?_) <;> (try simp only [hcL] at hc) <;> try omega) | simp (disch := omega) only [go_sem, simprocAttr] | apply And.intro | omega | decide +kernel
   refine Zbd _ (Zcl 3 3 902 1 rfl rfl rfl) ?_
   refine Zap (κ := Nat) (fun (k : Nat) => k ≤ cs.length) (fun (k : Nat) => [(2, .ptr 2 0 0 0), (3, .ptr 3 0 0 0), (30, .d (Zaj cs)), (31, .int cs.length), (32, .int k)]) (fun (k : Nat) => [(2, .cells [.int 0, .nilS, .nilS, .nilS]), (3, .cells [.int n, .ref 901 1 0 ls.length ls.length, .d (Zal ar), .ref 902 1 0 k k]), (901, .row 1 (ls.map Zak)), (902, .row 1 ((cs.take k).map Zak))]) (fun (k : Nat) => cs.length - k) 0 ?_ ?_ ?_
   ·exact Nat.zero_le _
   ·exact eL [] _ _ (by refine ⟨?_, ?_⟩ <;> (repeat' first | exact fmn | refine fmc ⟨(by first | rfl | (simp (disch := omega) only [go_sem, simprocAttr, inL, List.take_zero, List.map_nil]; first | done | omega | (congr 1; done))), ?_⟩); done)
   ·intro k hk
    have hlk : (cs.take k).length = k := by rw [List.length_take]; omega
    have htk : ((cs.take k).map Zak).take k = (cs.take k).map Zak := List.take_of_length_le (by rw [List.length_map, hlk]; exact Nat.le_refl _)
    rcases Nat.lt_or_ge k cs.length with hlt | hge
    ·obtain ⟨x, hx⟩ := Zan hlt
     have hc1 := hl2 k x hx
     have e1 := Zat hx
     repeat' first | refine Zad rfl ?_ | refine Zac ?_ | refine wR ?_ | (refine rc (hc1) rfl ?_ ?_; (· first | rfl | simp (disch := omega) only [go_sem, simprocAttr, hx, hlk, htk, Zbb])) | (refine Zaa rfl rfl (fun hc => ?_) (fun hc => ?_) <;> try simp only [hcL] at hc) | (refine Zab _ rfl rfl (fun hc => ?_) (fun hc => ?_) <;> (try simp only [hcL] at hc) <;> try omega) | simp (disch := omega) only [go_sem, simprocAttr, hx, hlk, htk, Zbb] | exact fun d hd => by rw [List.mem_singleton.1 hd]; rfl | apply And.intro | omega | decide +kernel
     refine ⟨k + 1, ?_, eL [(902, 41)] _ _ (by refine ⟨?_, ?_⟩ <;> (repeat' first | exact fmn | refine fmc ⟨(by first | rfl | (simp (disch := omega) only [go_sem, simprocAttr, inL, e1, htk, List.map_append, List.map_cons, List.map_nil]; first | done | omega | (congr 1; done))), ?_⟩); done), ?_⟩
     ·omega
     ·omega
    ·have : k = cs.length := by omega
     subst this
     try dsimp only
     rw [List.take_length]
     repeat' first | refine Zad rfl ?_ | refine Zac ?_ | refine wR ?_ | (refine Zaa rfl rfl (fun hc => ?_) (fun hc => ?_) <;> try simp only [hcL] at hc) | (refine Zab _ rfl rfl (fun hc => ?_) (fun hc => ?_) <;> (try simp only [hcL] at hc) <;> try omega) | simp (disch := omega) only [go_sem, simprocAttr] | apply And.intro | omega | decide +kernel
     refine ⟨_, _, _, _, rfl, ?_⟩
     simp (disch := omega) only [go_sem, simprocAttr, toD, List.length_map, Nat.le_refl, List.drop_zero]
     rw [Zae, Zae]
def nowI (m : List (List Int)) (A b : Nat) : Int := sm (fun j => if A < j then Zao m A j else 0) b
def nowT (m : List (List Int)) (A : Nat) : Int := sm (fun A => nowI m A m.length) A
theorem nowI_in {m : List (List Int)} (hs : Sq m) (A b : Nat) : 0 ≤ nowI m A b ∧ nowI m A b ≤ 1000000 * b := Go.Bd.sm_bounds b fun k _ => by
 have := cellAt_le hs A k
 split <;> omega
theorem nowT_le {m : List (List Int)} (hs : Sq m) (h8 : m.length ≤ 8) (A : Nat) : 0 ≤ nowT m A ∧ nowT m A ≤ 8000000 * A :=
 Go.Bd.sm_bounds A fun k _ => by
  have := nowI_in hs k m.length
  omega
theorem nowI_split (m : List (List Int)) (A : Nat) : ∀ n, A < n → nowI m A n = sm (fun j => Zao m A (A + 1 + j)) (n - 1 - A)
 | 0, h => by omega
 | n + 1, h => by
  have e : nowI m A (n + 1) = nowI m A n + (if A < n then Zao m A n else 0) := rfl
  rw [e]
  by_cases c : A < n
  ·rw [nowI_split m A n c, if_pos c, show n + 1 - 1 - A = (n - 1 - A) + 1 by omega]
   have e2 : sm (fun j => Zao m A (A + 1 + j)) (n - 1 - A + 1) = sm (fun j => Zao m A (A + 1 + j)) (n - 1 - A) + Zao m A (A + 1 + (n - 1 - A)) := rfl
   rw [e2, show A + 1 + (n - 1 - A) = n by omega]
  ·have : n = A := by omega
   subst this
   have z : ∀ k, k ≤ n → nowI m n k = 0 := by
    intro k
    induction k with
    | zero => intro _; rfl
    | succ k ih =>
     intro hk
     have e3 : nowI m n (k + 1) = nowI m n k + (if n < k then Zao m n k else 0) := rfl
     rw [e3, ih (by omega), if_neg (by omega)]; rfl
   rw [z n (Nat.le_refl _), if_neg c, show n + 1 - 1 - n = 0 by omega]; rfl
theorem sm_congr {f g : Nat → Int} : ∀ n, (∀ k, k < n → f k = g k) → sm f n = sm g n
 | 0, _ => rfl
 | n + 1, h => by
  have e : ∀ f : Nat → Int, sm f (n + 1) = sm f n + f n := fun _ => rfl
  rw [e, e, sm_congr n fun k hk => h k (by omega), h n (by omega)]
theorem now_sum (m : List (List Int)) : nowT m m.length = sumC (Zao m) (List.range m.length) := by
 rw [Go.Bd.sumC_range, nowT]
 exact sm_congr _ fun A hA => nowI_split m A _ hA
theorem osmall_spec (l : List Int) (hl : l.length ≤ 1000000) : Zah Tryz.prog 25 [Zak l] (.bool (decide (l.length ≤ 8))) := by
 refine Zaf Tryz.func25 rfl (by decide +kernel) (Nat.le_of_ble_eq_true rfl) ?_
 intro hat B X w0
 repeat' first | refine Zad rfl ?_ | refine Zac ?_ | refine wR ?_ | (refine Zaa rfl rfl (fun hc => ?_) (fun hc => ?_) <;> try simp only [hcL] at hc) | (refine Zab _ rfl rfl (fun hc => ?_) (fun hc => ?_) <;> (try simp only [hcL] at hc) <;> try omega) | simp (disch := omega) only [go_sem, simprocAttr] | apply And.intro | omega | decide +kernel
 exact Zas (by rw [Bool.eq_iff_iff]; simp only [decide_eq_true_eq]; omega)
set_option maxHeartbeats 8000000 in
theorem better_spec (a : Lv) (i : Nat) (hw : wide a) (hv : Zay a = true) (har : a.2.2.1.length ≤ 700) (hil : i < a.2.1.length) :
  Zah Tryz.prog 34 [lvD a, .int i] (.tup [Zam (betF a i).1, .bool (betF a i).2]) := by
 obtain ⟨y, hy⟩ := Zan hil
 have hyl := Zbq (List.mem_of_getElem? hy)
 obtain ⟨t1, t2⟩ := Zcq hv
 have h1 := osmall_spec y (by omega)
 rw [betF, Zbo hy]
 by_cases h8 : 8 < y.length
 ·rw [if_pos h8]
  rw [decide_eq_false (by omega)] at h1
  obtain ⟨n, ls, ar, cs⟩ := a
  dsimp only at *
  refine Zaf Tryz.func34 rfl (by decide +kernel) (Nat.le_of_ble_eq_true rfl) ?_
  intro hat B X w0
  repeat' first | refine Zad rfl ?_ | refine Zac ?_ | refine wR ?_ | (refine rc (h1) rfl ?_ ?_; (· first | rfl | simp (disch := omega) only [go_sem, simprocAttr, hy])) | (refine Zaa rfl rfl (fun hc => ?_) (fun hc => ?_) <;> try simp only [hcL] at hc) | (refine Zab _ rfl rfl (fun hc => ?_) (fun hc => ?_) <;> (try simp only [hcL] at hc) <;> try omega) | simp (disch := omega) only [go_sem, simprocAttr, hy] | apply And.intro | omega | decide +kernel
  exact ⟨_, rfl, Zcd rfl, Zas rfl, trivial⟩
 ·rw [if_neg h8]
  rw [decide_eq_true (by omega)] at h1
  have h2 := omatrix_spec a i hw hv hil
  have hmok := orM_ok (i := i) har (by rw [Zbo hy]; exact h8)
  have h3 := Least_spec (orM a i)
  rw [if_pos hmok] at h3
  obtain ⟨hs, hm8⟩ := ok_sq hmok
  have hml := orM_len a i
  rw [Zbo hy] at hml
  have hns := now_sum (orM a i)
  have hbb : 0 ≤ (Zbm (orM a i)).2 ∧ (Zbm (orM a i)).2 ≤ 64000000 := by
   obtain ⟨g1, g2, _⟩ := Go.Bd.best_bounds hs.small hm8 (part_nil _) (bestAll_eq (orM a i))
   exact ⟨g1, g2⟩
  rw [betB, Zbo hy, ← hml, ← hns]
  have hni := nowI_in hs
  have hnt := nowT_le hs hm8
  have hIs : ∀ A b, nowI (orM a i) A (b + 1) = nowI (orM a i) A b + (if A < b then Zao (orM a i) A b else 0) := fun _ _ => rfl
  have hTs : ∀ A, nowT (orM a i) (A + 1) = nowT (orM a i) A + nowI (orM a i) A (orM a i).length := fun _ => rfl
  have hI0 : ∀ A, nowI (orM a i) A 0 = 0 := fun _ => rfl
  have hT0 : nowT (orM a i) 0 = 0 := rfl
  generalize orM a i = m at *
  generalize nowI m = I at *
  generalize nowT m = T at *
  generalize Zbm m = BB at *
  obtain ⟨p, cost⟩ := BB
  obtain ⟨n, ls, ar, cs⟩ := a
  dsimp only at *
  refine Zaf Tryz.func34 rfl (by decide +kernel) (Nat.le_of_ble_eq_true rfl) ?_
  intro hat B X w0
  repeat' first | refine Zad rfl ?_ | refine Zac ?_ | refine wR ?_ | (refine rc (h1) rfl ?_ ?_; (· first | rfl | simp (disch := omega) only [go_sem, simprocAttr, hy])) | (refine rc (h2) rfl ?_ ?_; (· first | rfl | simp (disch := omega) only [go_sem, simprocAttr, hy])) | (refine Zaa rfl rfl (fun hc => ?_) (fun hc => ?_) <;> try simp only [hcL] at hc) | (refine Zab _ rfl rfl (fun hc => ?_) (fun hc => ?_) <;> (try simp only [hcL] at hc) <;> try omega) | simp (disch := omega) only [go_sem, simprocAttr, hy] | apply And.intro | omega | decide +kernel
  refine Zap (κ := Nat) (fun (u : Nat) => u ≤ m.length) (fun (u : Nat) => [(6, .d (Zaj m)), (7, .int (T u)), (24, .int m.length), (25, .int u)]) (fun (u : Nat) => []) (fun (u : Nat) => m.length - u) 0 ?_ ?_ ?_
  ·exact Nat.zero_le _
  ·exact eL [] _ _ (by refine ⟨?_, ?_⟩ <;> (repeat' first | exact fmn | refine fmc ⟨(by first | rfl | (simp (disch := omega) only [go_sem, simprocAttr, inL, hT0]; first | done | omega | (congr 1; done))), ?_⟩); done)
  ·intro u hu
   have b1 := hnt u
   rcases Nat.lt_or_ge u m.length with hlt | hge
   ·have e1 := hTs u
    repeat' first | refine Zad rfl ?_ | refine Zac ?_ | refine wR ?_ | (refine Zaa rfl rfl (fun hc => ?_) (fun hc => ?_) <;> try simp only [hcL] at hc) | (refine Zab _ rfl rfl (fun hc => ?_) (fun hc => ?_) <;> (try simp only [hcL] at hc) <;> try omega) | simp (disch := omega) only [go_sem, simprocAttr] | apply And.intro | omega | decide +kernel
    refine Zap (κ := Nat) (fun (b : Nat) => b ≤ m.length) (fun (b : Nat) => [(6, .d (Zaj m)), (7, .int (T u + I u b)), (8, .int u), (24, .int m.length), (25, .int u), (29, .int m.length), (30, .int b)]) (fun (b : Nat) => []) (fun (b : Nat) => m.length - b) 0 ?_ ?_ ?_
    ·exact Nat.zero_le _
    ·exact eL [] _ _ (by refine ⟨?_, ?_⟩ <;> (repeat' first | exact fmn | refine fmc ⟨(by first | rfl | (simp (disch := omega) only [go_sem, simprocAttr, inL, hI0, Int.add_zero]; first | done | omega | (congr 1; done))), ?_⟩); done)
    ·intro b hb
     have b2 := hni u b
     rcases Nat.lt_or_ge b m.length with hlb | hgb
     ·obtain ⟨q, hq, hql, hqv, g1, g2⟩ := hs.get hlt hlb
      have e2 := hIs u b
      by_cases c : u < b
      ·rw [if_pos c] at e2
       repeat' first | refine Zad rfl ?_ | refine Zac ?_ | refine wR ?_ | (refine Zaa rfl rfl (fun hc => ?_) (fun hc => ?_) <;> try simp only [hcL] at hc) | (refine Zab _ rfl rfl (fun hc => ?_) (fun hc => ?_) <;> (try simp only [hcL] at hc) <;> try omega) | simp (disch := omega) only [go_sem, simprocAttr, hq, hqv, hql, c] | apply And.intro | omega | decide +kernel
       refine ⟨b + 1, ?_, eL [] _ _ (by refine ⟨?_, ?_⟩ <;> (repeat' first | exact fmn | refine fmc ⟨(by first | rfl | (simp (disch := omega) only [go_sem, simprocAttr, inL, e2, Int.add_assoc]; first | done | omega | (congr 1; done))), ?_⟩); done), ?_⟩
       ·omega
       ·omega
      ·rw [if_neg c, Int.add_zero] at e2
       repeat' first | refine Zad rfl ?_ | refine Zac ?_ | refine wR ?_ | (refine Zaa rfl rfl (fun hc => ?_) (fun hc => ?_) <;> try simp only [hcL] at hc) | (refine Zab _ rfl rfl (fun hc => ?_) (fun hc => ?_) <;> (try simp only [hcL] at hc) <;> try omega) | simp (disch := omega) only [go_sem, simprocAttr, c] | apply And.intro | omega | decide +kernel
       refine ⟨b + 1, ?_, eL [] _ _ (by refine ⟨?_, ?_⟩ <;> (repeat' first | exact fmn | refine fmc ⟨(by first | rfl | (simp (disch := omega) only [go_sem, simprocAttr, inL, e2]; first | done | omega | (congr 1; done))), ?_⟩); done), ?_⟩
       ·omega
       ·omega
     ·have : b = m.length := by omega
      subst this
      repeat' first | refine Zad rfl ?_ | refine Zac ?_ | refine wR ?_ | (refine Zaa rfl rfl (fun hc => ?_) (fun hc => ?_) <;> try simp only [hcL] at hc) | (refine Zab _ rfl rfl (fun hc => ?_) (fun hc => ?_) <;> (try simp only [hcL] at hc) <;> try omega) | simp (disch := omega) only [go_sem, simprocAttr] | apply And.intro | omega | decide +kernel
      refine ⟨u + 1, ?_, eL [] _ _ (by refine ⟨?_, ?_⟩ <;> (repeat' first | exact fmn | refine fmc ⟨(by first | rfl | (simp (disch := omega) only [go_sem, simprocAttr, inL, e1]; first | done | omega | (congr 1; done))), ?_⟩); done), ?_⟩
      ·omega
      ·omega
   ·have : u = m.length := by omega
    subst this
    repeat' first | refine Zad rfl ?_ | refine Zac ?_ | refine wR ?_ | (refine rc (h3) rfl ?_ ?_; (· first | rfl | simp (disch := omega) only [go_sem, simprocAttr])) | (refine Zaa rfl rfl (fun hc => ?_) (fun hc => ?_) <;> try simp only [hcL] at hc) | (refine Zab _ rfl rfl (fun hc => ?_) (fun hc => ?_) <;> (try simp only [hcL] at hc) <;> try omega) | simp (disch := omega) only [go_sem, simprocAttr] | apply And.intro | omega | decide +kernel
    refine ⟨_, rfl, Zcd rfl, Zas ?_, trivial⟩
    rw [Bool.eq_iff_iff]
set_option maxHeartbeats 8000000 in
theorem arrange_spec (a : Lv) (i : Nat) (o : List Nat) (hw : wide a) (hv : Zay a = true) (hil : i < a.2.1.length) (ho : Part (lstN a.2.1 i).length 0 o) :
  Zah Tryz.prog 28 [lvD a, .int i, Zam o] (lvD (putL a i (Zbl (lstN a.2.1 i) o))) := by
 obtain ⟨y, hy⟩ := Zan hil
 have hyl := Zbq (List.mem_of_getElem? hy)
 obtain ⟨t1, t2⟩ := Zcq hv
 rw [Zbo hy] at ho ⊢
 have hol := ho.len
 have hr := Reorder_spec a i (Zbl y o) hw (by rw [permL_len]; omega)
 rw [reorder_put hv hy ho] at hr
 generalize putL a i (Zbl y o) = P at *
 obtain ⟨n', ls', ar', cs'⟩ := P
 obtain ⟨n, ls, ar, cs⟩ := a
 dsimp only at *
 refine Zaf Tryz.func28 rfl (by decide +kernel) (Nat.le_of_ble_eq_true rfl) ?_
 intro hat B X w0
 repeat' first | refine Zad rfl ?_ | refine Zac ?_ | refine wR ?_ | (refine Zaa rfl rfl (fun hc => ?_) (fun hc => ?_) <;> try simp only [hcL] at hc) | (refine Zab _ rfl rfl (fun hc => ?_) (fun hc => ?_) <;> (try simp only [hcL] at hc) <;> try omega) | simp (disch := omega) only [go_sem, simprocAttr] | apply And.intro | omega | decide +kernel
 refine Zbd _ (ent_nil 7 901 1 rfl rfl) ?_
 refine Zap (κ := Nat) (fun (k : Nat) => k ≤ o.length) (fun (k : Nat) => [(1, .int i), (3, .ptr 3 0 0 0), (6, .ptr 6 0 0 0), (7, .ref 901 1 0 k k), (12, .d (Zam o)), (13, .int o.length), (14, .int k)]) (fun (k : Nat) => [(3, .cells [.int n, .d (Zaj ls), .d (Zal ar), .d (Zaj cs)]), (6, .cells [.int 0, .nilS, .nilS, .nilS]), (901, .row 1 (((Zbl y o).take k).map D.int))]) (fun (k : Nat) => o.length - k) 0 ?_ ?_ ?_
 ·exact Nat.zero_le _
 ·exact eL [] _ _ (by refine ⟨?_, ?_⟩ <;> (repeat' first | exact fmn | refine fmc ⟨(by first | rfl | (simp (disch := omega) only [go_sem, simprocAttr, inL, List.take_zero, List.map_nil]; first | done | omega | (congr 1; done))), ?_⟩); done)
 ·intro k hk
  have hlk : ((Zbl y o).take k).length = k := by rw [List.length_take, permL_len]; omega
  have htk : (((Zbl y o).take k).map D.int).take k = ((Zbl y o).take k).map D.int := List.take_of_length_le (by rw [List.length_map, hlk]; exact Nat.le_refl _)
  rcases Nat.lt_or_ge k o.length with hlt | hge
  ·obtain ⟨q, hq⟩ := Zan hlt
   have hqn := ho.lt q (List.mem_of_getElem? hq)
   have hyq : y[q]? = some (yG y q) := by rw [yG, List.getElem?_eq_getElem hqn]; rfl
   have e1 : (Zbl y o).take (k + 1) = (Zbl y o).take k ++ [yG y q] := Zat (by rw [Zbl, List.getElem?_map, hq]; rfl)
   generalize (Zbl y o).take k = R at *
   repeat' first | refine Zad rfl ?_ | refine Zac ?_ | refine wR ?_ | (refine Zaa rfl rfl (fun hc => ?_) (fun hc => ?_) <;> try simp only [hcL] at hc) | (refine Zab _ rfl rfl (fun hc => ?_) (fun hc => ?_) <;> (try simp only [hcL] at hc) <;> try omega) | simp (disch := omega) only [go_sem, simprocAttr, hy, hq, hyq, hlk, htk, Zbb] | exact Zbs _ | apply And.intro | omega | decide +kernel
   refine ⟨k + 1, ?_, eL [(901, 28)] _ _ (by refine ⟨?_, ?_⟩ <;> (repeat' first | exact fmn | refine fmc ⟨(by first | rfl | (simp (disch := omega) only [go_sem, simprocAttr, inL, e1, htk, List.map_append, List.map_cons, List.map_nil]; first | done | omega | (congr 1; done))), ?_⟩); done), ?_⟩
   ·omega
   ·omega
  ·have : k = o.length := by omega
   subst this
   have hfull : (Zbl y o).take o.length = Zbl y o := List.take_of_length_le (by rw [permL_len]; exact Nat.le_refl _)
   rw [hfull] at hlk htk
   rw [hfull]
   refine Zbd _ (Zcm 901 1 ((Zbl y o).map D.int) rfl (Zcn _ rfl) (by decide)) ?_
   repeat' first | refine Zad rfl ?_ | refine Zac ?_ | refine wR ?_ | (refine rc (hr) rfl ?_ ?_; (· first | rfl | simp (disch := omega) only [go_sem, simprocAttr, hlk, htk, List.drop_zero])) | (refine Zaa rfl rfl (fun hc => ?_) (fun hc => ?_) <;> try simp only [hcL] at hc) | (refine Zab _ rfl rfl (fun hc => ?_) (fun hc => ?_) <;> (try simp only [hcL] at hc) <;> try omega) | simp (disch := omega) only [go_sem, simprocAttr, hlk, htk, List.drop_zero] | apply And.intro | omega | decide +kernel
   refine ⟨_, _, _, _, rfl, ?_⟩
   simp (disch := omega) only [go_sem, simprocAttr, toD]
set_option maxHeartbeats 8000000 in
theorem Exact_spec (a : Lv) (i f : Int) (hw : wide a) : Zah Tryz.prog 10 [lvD a, .int i, .int f] (.tup [lvD (exaF a i f).1, .int (exaF a i f).2]) := by
 have h1 := Zbx a hw
 rw [exaF]
 rcases hm : matOk a i f with _ | _
 ·rw [if_pos rfl]
  rw [matOk] at hm
  rcases hv : Zay a with _ | _ <;> rw [hv] at h1 hm
  ·refine Zaf Tryz.func10 rfl (by decide +kernel) (Nat.le_of_ble_eq_true rfl) ?_
   intro hat B X w0
   repeat' first | refine Zad rfl ?_ | refine Zac ?_ | refine wR ?_ | (refine rc (h1) rfl ?_ ?_; (· first | rfl | simp (disch := omega) only [go_sem, simprocAttr, List.append_eq])) | (refine Zaa rfl rfl (fun hc => ?_) (fun hc => ?_) <;> try simp only [hcL] at hc) | (refine Zab _ rfl rfl (fun hc => ?_) (fun hc => ?_) <;> (try simp only [hcL] at hc) <;> try omega) | simp (disch := omega) only [go_sem, simprocAttr, List.append_eq] | apply And.intro | omega | decide +kernel
   refine ⟨_, rfl, ⟨_, _, _, _, rfl, ?_⟩, Zar rfl, trivial⟩
   simp (disch := omega) only [go_sem, simprocAttr, toD]
   rfl
  ·obtain ⟨t1, t2⟩ := Zcq hv
   have hn : ¬ (((0 ≤ i ∧ i < a.2.1.length) ∧ (0 ≤ f ∧ f < a.2.1.length)) ∧ (f = i - 1 ∨ f = i + 1)) := by simpa [and_assoc] using hm
   obtain ⟨n, ls, ar, cs⟩ := a
   dsimp only at t1 t2 hn
   refine Zaf Tryz.func10 rfl (by decide +kernel) (Nat.le_of_ble_eq_true rfl) ?_
   intro hat B X w0
   repeat' first | refine Zad rfl ?_ | refine Zac ?_ | refine wR ?_ | (refine rc (h1) rfl ?_ ?_; (· first | rfl | simp (disch := omega) only [go_sem, simprocAttr, List.append_eq])) | (refine Zaa rfl rfl (fun hc => ?_) (fun hc => ?_) <;> try simp only [hcL] at hc) | (refine Zab _ rfl rfl (fun hc => ?_) (fun hc => ?_) <;> (try simp only [hcL] at hc) <;> try omega) | simp (disch := omega) only [go_sem, simprocAttr, List.append_eq] | apply And.intro | omega | decide +kernel
   all_goals
    refine ⟨_, rfl, ⟨_, _, _, _, rfl, ?_⟩, Zar rfl, trivial⟩
    simp (disch := omega) only [go_sem, simprocAttr, toD]
    rfl
 ·rw [if_neg (by decide)]
  obtain ⟨hv, hi, hf, hif⟩ := matOk_in hm
  rw [hv] at h1
  obtain ⟨t1, t2⟩ := Zcq hv
  have hp := matF_part hm
  have h3 := Matrix_spec a i f hw
  have hml := matF_len hm
  have hsq := MatrixF_sq a i f
  obtain ⟨i, rfl⟩ : ∃ n : Nat, i = n := ⟨i.toNat, by omega⟩
  rw [Int.toNat_natCast] at *
  obtain ⟨y, hy⟩ := Zan (l := a.2.1) (k := i) (by omega)
  have hyl := Zbq (List.mem_of_getElem? hy)
  have h2 := osmall_spec y (by omega)
  have h5 := fun ho => arrange_spec a i (Zbm (Zau a i f)).1 hw hv (by omega) ho
  rw [Zbo hy] at *
  by_cases h8 : 8 < y.length
  ·rw [if_pos h8]
   rw [decide_eq_false (by omega)] at h2
   obtain ⟨n, ls, ar, cs⟩ := a
   dsimp only at *
   refine Zaf Tryz.func10 rfl (by decide +kernel) (Nat.le_of_ble_eq_true rfl) ?_
   intro hat B X w0
   repeat' first | refine Zad rfl ?_ | refine Zac ?_ | refine wR ?_ | (refine rc (h1) rfl ?_ ?_; (· first | rfl | simp (disch := omega) only [go_sem, simprocAttr, List.append_eq, hy])) | (refine rc (h2) rfl ?_ ?_; (· first | rfl | simp (disch := omega) only [go_sem, simprocAttr, List.append_eq, hy])) | (refine Zaa rfl rfl (fun hc => ?_) (fun hc => ?_) <;> try simp only [hcL] at hc) | (refine Zab _ rfl rfl (fun hc => ?_) (fun hc => ?_) <;> (try simp only [hcL] at hc) <;> try omega) | simp (disch := omega) only [go_sem, simprocAttr, List.append_eq, hy] | apply And.intro | omega | decide +kernel
   all_goals
    refine ⟨_, rfl, ⟨_, _, _, _, rfl, ?_⟩, Zar rfl, trivial⟩
    simp (disch := omega) only [go_sem, simprocAttr, toD]
    rfl
  ·rw [if_neg h8]
   rw [decide_eq_true (by omega)] at h2
   have h4 := Least_spec (Zau a i f)
   rw [if_pos (sq_ok hsq (by omega))] at h4
   have h6 := h5 hp
   clear h5
   generalize Zau a i f = m at *
   generalize Zbm m = BB at *
   obtain ⟨p, cost⟩ := BB
   dsimp only at *
   generalize putL a i (Zbl y p) = P at *
   obtain ⟨n', ls', ar', cs'⟩ := P
   obtain ⟨n, ls, ar, cs⟩ := a
   dsimp only at *
   refine Zaf Tryz.func10 rfl (by decide +kernel) (Nat.le_of_ble_eq_true rfl) ?_
   intro hat B X w0
   repeat' first | refine Zad rfl ?_ | refine Zac ?_ | refine wR ?_ | (refine rc (h1) rfl ?_ ?_; (· first | rfl | simp (disch := omega) only [go_sem, simprocAttr, List.append_eq, hy])) | (refine rc (h2) rfl ?_ ?_; (· first | rfl | simp (disch := omega) only [go_sem, simprocAttr, List.append_eq, hy])) | (refine rc (h3) rfl ?_ ?_; (· first | rfl | simp (disch := omega) only [go_sem, simprocAttr, List.append_eq, hy])) | (refine rc (h4) rfl ?_ ?_; (· first | rfl | simp (disch := omega) only [go_sem, simprocAttr, List.append_eq, hy])) | (refine rc (h6) rfl ?_ ?_; (· first | rfl | simp (disch := omega) only [go_sem, simprocAttr, List.append_eq, hy])) | (refine Zaa rfl rfl (fun hc => ?_) (fun hc => ?_) <;> try simp only [hcL] at hc) | (refine Zab _ rfl rfl (fun hc => ?_) (fun hc => ?_) <;> (try simp only [hcL] at hc) <;> try omega) | simp (disch := omega) only [go_sem, simprocAttr, List.append_eq, hy] | apply And.intro | omega | decide +kernel
   all_goals
    refine ⟨_, rfl, ⟨_, _, _, _, rfl, ?_⟩, Zar rfl, trivial⟩
    simp (disch := omega) only [go_sem, simprocAttr, toD]
set_option maxHeartbeats 8000000 in
theorem Optimal_spec (a : Lv) (i : Int) (hw : wide a) (har : a.2.2.1.length ≤ 700) : Zah Tryz.prog 13 [lvD a, .int i] (.bool (optF a i)) := by
 have h1 := Zbx a hw
 rw [optF]
 rcases hv : Zay a with _ | _ <;> rw [hv] at h1
 ·refine Zaf Tryz.func13 rfl (by decide +kernel) (Nat.le_of_ble_eq_true rfl) ?_
  intro hat B X w0
  repeat' first | refine Zad rfl ?_ | refine Zac ?_ | refine wR ?_ | (refine rc (h1) rfl ?_ ?_; (· first | rfl | simp (disch := omega) only [go_sem, simprocAttr, List.append_eq])) | (refine Zaa rfl rfl (fun hc => ?_) (fun hc => ?_) <;> try simp only [hcL] at hc) | (refine Zab _ rfl rfl (fun hc => ?_) (fun hc => ?_) <;> (try simp only [hcL] at hc) <;> try omega) | simp (disch := omega) only [go_sem, simprocAttr, List.append_eq] | apply And.intro | omega | decide +kernel
  exact Zas rfl
 ·obtain ⟨t1, t2⟩ := Zcq hv
  by_cases hi : 0 ≤ i ∧ i < a.2.1.length
  ·rw [decide_eq_true hi]
   obtain ⟨i, rfl⟩ : ∃ n : Nat, i = n := ⟨i.toNat, by omega⟩
   rw [Int.toNat_natCast]
   obtain ⟨y, hy⟩ := Zan (l := a.2.1) (k := i) (by omega)
   have hyl := Zbq (List.mem_of_getElem? hy)
   have h2 := osmall_spec y (by omega)
   have h3 := better_spec a i hw hv har (by omega)
   rw [betF] at h3
   rw [Zbo hy] at *
   by_cases h8 : 8 < y.length
   ·rw [decide_eq_false (fun h => h h8)]
    rw [decide_eq_false (by omega)] at h2
    obtain ⟨n, ls, ar, cs⟩ := a
    dsimp only at *
    refine Zaf Tryz.func13 rfl (by decide +kernel) (Nat.le_of_ble_eq_true rfl) ?_
    intro hat B X w0
    repeat' first | refine Zad rfl ?_ | refine Zac ?_ | refine wR ?_ | (refine rc (h1) rfl ?_ ?_; (· first | rfl | simp (disch := omega) only [go_sem, simprocAttr, List.append_eq, hy])) | (refine rc (h2) rfl ?_ ?_; (· first | rfl | simp (disch := omega) only [go_sem, simprocAttr, List.append_eq, hy])) | (refine Zaa rfl rfl (fun hc => ?_) (fun hc => ?_) <;> try simp only [hcL] at hc) | (refine Zab _ rfl rfl (fun hc => ?_) (fun hc => ?_) <;> (try simp only [hcL] at hc) <;> try omega) | simp (disch := omega) only [go_sem, simprocAttr, List.append_eq, hy] | apply And.intro | omega | decide +kernel
    all_goals exact Zas rfl
   ·rw [decide_eq_true h8]
    rw [decide_eq_true (by omega)] at h2
    rw [if_neg h8] at h3
    generalize betB a i = b at *
    generalize Zbm (orM a i) = BB at *
    obtain ⟨n, ls, ar, cs⟩ := a
    dsimp only at *
    refine Zaf Tryz.func13 rfl (by decide +kernel) (Nat.le_of_ble_eq_true rfl) ?_
    intro hat B X w0
    repeat' first | refine Zad rfl ?_ | refine Zac ?_ | refine wR ?_ | (refine rc (h1) rfl ?_ ?_; (· first | rfl | simp (disch := omega) only [go_sem, simprocAttr, List.append_eq, hy])) | (refine rc (h2) rfl ?_ ?_; (· first | rfl | simp (disch := omega) only [go_sem, simprocAttr, List.append_eq, hy])) | (refine rc (h3) rfl ?_ ?_; (· first | rfl | simp (disch := omega) only [go_sem, simprocAttr, List.append_eq, hy])) | (refine Zaa rfl rfl (fun hc => ?_) (fun hc => ?_) <;> try simp only [hcL] at hc) | (refine Zab _ rfl rfl (fun hc => ?_) (fun hc => ?_) <;> (try simp only [hcL] at hc) <;> try omega) | simp (disch := omega) only [go_sem, simprocAttr, List.append_eq, hy] | apply And.intro | omega | decide +kernel
    exact Zas (by simp)
  ·rw [decide_eq_false hi]
   obtain ⟨n, ls, ar, cs⟩ := a
   dsimp only at *
   refine Zaf Tryz.func13 rfl (by decide +kernel) (Nat.le_of_ble_eq_true rfl) ?_
   intro hat B X w0
   repeat' first | refine Zad rfl ?_ | refine Zac ?_ | refine wR ?_ | (refine rc (h1) rfl ?_ ?_; (· first | rfl | simp (disch := omega) only [go_sem, simprocAttr, List.append_eq])) | (refine Zaa rfl rfl (fun hc => ?_) (fun hc => ?_) <;> try simp only [hcL] at hc) | (refine Zab _ rfl rfl (fun hc => ?_) (fun hc => ?_) <;> (try simp only [hcL] at hc) <;> try omega) | simp (disch := omega) only [go_sem, simprocAttr, List.append_eq] | apply And.intro | omega | decide +kernel
   all_goals exact Zas rfl
set_option maxHeartbeats 8000000 in
theorem Refine_spec (a : Lv) (hw : wide a) (har : a.2.2.1.length ≤ 700) : Zah Tryz.prog 15 [lvD a] (lvD (if Zay a then Zck a else lv0)) := by
 have h1 := Zbx a hw
 rcases hv : Zay a with _ | _ <;> rw [hv] at h1
 ·rw [if_neg (by decide)]
  refine Zaf Tryz.func15 rfl (by decide +kernel) (Nat.le_of_ble_eq_true rfl) ?_
  intro hat B X w0
  repeat' first | refine Zad rfl ?_ | refine Zac ?_ | refine wR ?_ | (refine rc (h1) rfl ?_ ?_; (· first | rfl | simp (disch := omega) only [go_sem, simprocAttr])) | (refine Zaa rfl rfl (fun hc => ?_) (fun hc => ?_) <;> try simp only [hcL] at hc) | (refine Zab _ rfl rfl (fun hc => ?_) (fun hc => ?_) <;> (try simp only [hcL] at hc) <;> try omega) | simp (disch := omega) only [go_sem, simprocAttr] | apply And.intro | omega | decide +kernel
  refine ⟨_, _, _, _, rfl, ?_⟩
  simp (disch := omega) only [go_sem, simprocAttr, toD]
  rfl
 ·rw [if_pos rfl]
  obtain ⟨t1, t2⟩ := Zcq hv
  have h2 := own_spec a hv
  have hK0 := Kin.refl hv hw
  have h3 : ∀ (b : Lv) (i : Nat), Kin a b → i < a.2.1.length → Zah Tryz.prog 34 [lvD b, .int i] (.tup [Zam (betF b i).1, .bool (betF b i).2]) := fun b i h hi => better_spec b i h.wd h.ok (by rw [h.arcs]; exact har) (by rw [h.len]; exact hi)
  have h4 : ∀ (b : Lv) (i : Nat), Kin a b → i < a.2.1.length → (betF b i).2 = true → Zah Tryz.prog 28 [lvD b, .int i, Zam (betF b i).1] (lvD (bestPut b i)) := fun b i h hi hb => by
   have hy := betF_yes hb
   have e : (betF b i).1 = (Zbm (orM b i)).1 := by rw [betF, if_neg hy.1]
   rw [e]
   exact arrange_spec b i _ h.wd h.ok (by rw [h.len]; exact hi) (orM_part b i)
  obtain ⟨M, hM⟩ : ∃ M, M = refMs a 0 := ⟨_, rfl⟩
  rw [Zck, ← hM]
  generalize hR : refN M a 0 = R
  obtain ⟨L, hL⟩ : ∃ L, L = a.2.1.length := ⟨_, rfl⟩
  rw [← hL] at h3 h4 t1
  refine Zaf Tryz.func15 rfl (by decide +kernel) (Nat.le_of_ble_eq_true rfl) ?_
  intro hat B X w0
  repeat' first | refine Zad rfl ?_ | refine Zac ?_ | refine wR ?_ | (refine rc (h1) rfl ?_ ?_; (· first | rfl | simp (disch := omega) only [go_sem, simprocAttr])) | (refine rc (h2) rfl ?_ ?_; (· first | rfl | simp (disch := omega) only [go_sem, simprocAttr])) | (refine Zaa rfl rfl (fun hc => ?_) (fun hc => ?_) <;> try simp only [hcL] at hc) | (refine Zab _ rfl rfl (fun hc => ?_) (fun hc => ?_) <;> (try simp only [hcL] at hc) <;> try omega) | simp (disch := omega) only [go_sem, simprocAttr] | apply And.intro | omega | decide +kernel
  refine Zap (κ := Nat × Lv × Nat) (fun (q : Nat × Lv × Nat) => match q with | (f, b, i) => Kin a b ∧ refMs b i ≤ f ∧ i ≤ L ∧ refN f b i = R) (fun (q : Nat × Lv × Nat) => match q with | (f, b, i) => [(1, .ptr 1 0 0 0), (2, .ptr 2 0 0 0), (3, .int i)]) (fun (q : Nat × Lv × Nat) => match q with | (f, b, i) => [(1, .cells [.int b.1, .d (Zaj b.2.1), .d (Zal b.2.2.1), .d (Zaj b.2.2.2)]), (2, .cells [.int 0, .nilS, .nilS, .nilS])]) (fun (q : Nat × Lv × Nat) => match q with | (f, b, i) => f) (M, a, 0) ?_ ?_ ?_
  ·exact ⟨hK0, Nat.le_of_eq hM.symm, Nat.zero_le _, hR⟩
  ·exact eL [] _ _ (by refine ⟨?_, ?_⟩ <;> (repeat' first | exact fmn | refine fmc ⟨(by first | rfl | (simp (disch := omega) only [go_sem, simprocAttr, inL]; first | done | omega | (congr 1; done))), ?_⟩); done)
  ·rintro ⟨f, b, i⟩ ⟨hK, hms, hi, hres⟩
   dsimp only at hK hms hi hres ⊢
   have hbl : b.2.1.length = L := by rw [hK.len, hL]
   rcases Nat.lt_or_ge i L with hlt | hge
   ·have hf : 0 < f := by
     have : refMs b i = (Zbg b).toNat * (b.2.1.length + 1) + (b.2.1.length - i) := rfl
     omega
    obtain ⟨f, rfl⟩ : ∃ g, f = g + 1 := ⟨f - 1, by omega⟩
    rw [refN, if_pos (by omega)] at hres
    have c1 := h3 b i hK hlt
    rcases hb : (betF b i).2 with _ | _
    ·rw [hb] at c1
     rw [hb, if_neg (by decide)] at hres
     have hs := ms_step (b := b) (i := i) (by omega)
     clear h3 h4
     obtain ⟨n, ls, ar, cs⟩ := b
     dsimp only at hbl hb c1 ⊢
     repeat' first | refine Zad rfl ?_ | refine Zac ?_ | refine wR ?_ | (refine rc (c1) rfl ?_ ?_; (· first | rfl | simp (disch := omega) only [go_sem, simprocAttr, hbl])) | (refine Zaa rfl rfl (fun hc => ?_) (fun hc => ?_) <;> try simp only [hcL] at hc) | (refine Zab _ rfl rfl (fun hc => ?_) (fun hc => ?_) <;> (try simp only [hcL] at hc) <;> try omega) | simp (disch := omega) only [go_sem, simprocAttr, hbl] | apply And.intro | omega | decide +kernel
     refine ⟨(f, (n, ls, ar, cs), i + 1), ?_, eL [] _ _ (by refine ⟨?_, ?_⟩ <;> (repeat' first | exact fmn | refine fmc ⟨(by first | rfl | (simp (disch := omega) only [go_sem, simprocAttr, inL, Int.natCast_add, Int.natCast_one]; first | done | omega | (congr 1; done))), ?_⟩); done), ?_⟩
     ·exact ⟨hK, by dsimp only; omega, hlt, hres⟩
     ·exact Nat.lt_succ_self _
    ·have c2 := h4 b i hK hlt hb
     rw [hb] at c1
     rw [hb, if_pos rfl] at hres
     have hs := ms_put hK (by omega) (betF_yes hb).2
     have hK2 := bet_kin hK (i := i) (by omega)
     clear h3 h4
     generalize bestPut b i = P at *
     obtain ⟨n, ls, ar, cs⟩ := b
     dsimp only at hbl hb c1 c2 ⊢
     repeat' first | refine Zad rfl ?_ | refine Zac ?_ | refine wR ?_ | (refine rc (c1) rfl ?_ ?_; (· first | rfl | simp (disch := omega) only [go_sem, simprocAttr, hbl])) | (refine rc (c2) rfl ?_ ?_; (· first | rfl | simp (disch := omega) only [go_sem, simprocAttr, hbl])) | (refine Zaa rfl rfl (fun hc => ?_) (fun hc => ?_) <;> try simp only [hcL] at hc) | (refine Zab _ rfl rfl (fun hc => ?_) (fun hc => ?_) <;> (try simp only [hcL] at hc) <;> try omega) | simp (disch := omega) only [go_sem, simprocAttr, hbl] | apply And.intro | omega | decide +kernel
     refine ⟨(f, P, 0), ?_, eL [] _ _ (by refine ⟨?_, ?_⟩ <;> (repeat' first | exact fmn | refine fmc ⟨(by first | rfl | (simp (disch := omega) only [go_sem, simprocAttr, inL]; first | done | omega | (congr 1; done))), ?_⟩); done), ?_⟩
     ·exact ⟨hK2, by dsimp only; omega, Nat.zero_le _, hres⟩
     ·exact Nat.lt_succ_self _
   ·rw [refN_end (by omega)] at hres
    subst hres
    obtain ⟨n, ls, ar, cs⟩ := b
    dsimp only at hbl ⊢
    repeat' first | refine Zad rfl ?_ | refine Zac ?_ | refine wR ?_ | (refine Zaa rfl rfl (fun hc => ?_) (fun hc => ?_) <;> try simp only [hcL] at hc) | (refine Zab _ rfl rfl (fun hc => ?_) (fun hc => ?_) <;> (try simp only [hcL] at hc) <;> try omega) | simp (disch := omega) only [go_sem, simprocAttr, hbl] | apply And.intro | omega | decide +kernel
    refine ⟨_, _, _, _, rfl, ?_⟩
    simp (disch := omega) only [go_sem, simprocAttr, toD]
def ornF (a : Lv) (r : Int) : Lv × Int × Int :=
 if Zay a = true ∧ 0 ≤ r ∧ r ≤ 100 then (Zck (bstB a r.toNat), Zbg (Zck (bstB a r.toNat)), 0) else (lv0, 0, 1)
set_option maxHeartbeats 8000000 in
theorem oRun_spec (a : Lv) (r : Int) (hw : wide a) (har : a.2.2.1.length ≤ 700) : Zah Tryz.prog 17 [lvD a, .int r] (.tup [lvD (ornF a r).1, .int (ornF a r).2.1, .int (ornF a r).2.2]) := by
 have h1 := Zbx a hw
 rw [ornF]
 by_cases hall : Zay a = true ∧ 0 ≤ r ∧ r ≤ 100
 ·rw [if_pos hall]
  obtain ⟨hv, hr0, hr1⟩ := hall
  rw [hv] at h1
  obtain ⟨t1, t2⟩ := Zcq hv
  have hb := bRun_spec a r hw har
  have hrr : rndB r = r.toNat := by rw [rndB]; omega
  rw [brnF, if_pos hv, hrr] at hb
  have hK := bstB_kin hv hw r.toNat
  have h3 := Refine_spec (bstB a r.toNat) hK.wd (by rw [hK.arcs]; exact har)
  rw [if_pos hK.ok] at h3
  have hK2 := (refine_ok hK.ok hK.wd).1
  have h4 := Total_spec (Zck (bstB a r.toNat)) hK2.wd (by rw [hK2.len, hK.len]; omega)
  dsimp only at hb ⊢
  generalize Zck (bstB a r.toNat) = Q at *
  generalize bstB a r.toNat = P at *
  generalize Zbg P = tp at *
  generalize Zbg Q = tq at *
  clear hK hK2
  obtain ⟨n1, ls1, ar1, cs1⟩ := Q
  obtain ⟨n2, ls2, ar2, cs2⟩ := P
  refine Zaf Tryz.func17 rfl (by decide +kernel) (Nat.le_of_ble_eq_true rfl) ?_
  intro hat B X w0
  repeat' first | refine Zad rfl ?_ | refine Zac ?_ | refine wR ?_ | (refine rc (h1) rfl ?_ ?_; (· first | rfl | simp (disch := omega) only [go_sem, simprocAttr, List.append_eq])) | (refine rc (hb) rfl ?_ ?_; (· first | rfl | simp (disch := omega) only [go_sem, simprocAttr, List.append_eq])) | (refine rc (h3) rfl ?_ ?_; (· first | rfl | simp (disch := omega) only [go_sem, simprocAttr, List.append_eq])) | (refine rc (h4) rfl ?_ ?_; (· first | rfl | simp (disch := omega) only [go_sem, simprocAttr, List.append_eq])) | (refine Zaa rfl rfl (fun hc => ?_) (fun hc => ?_) <;> try simp only [hcL] at hc) | (refine Zab _ rfl rfl (fun hc => ?_) (fun hc => ?_) <;> (try simp only [hcL] at hc) <;> try omega) | simp (disch := omega) only [go_sem, simprocAttr, List.append_eq] | apply And.intro | omega | decide +kernel
  refine ⟨_, rfl, ⟨_, _, _, _, rfl, ?_⟩, Zar rfl, Zar rfl, trivial⟩
  simp (disch := omega) only [go_sem, simprocAttr, toD]
 ·rw [if_neg hall]
  rcases hv : Zay a with _ | _ <;> rw [hv] at h1
  ·refine Zaf Tryz.func17 rfl (by decide +kernel) (Nat.le_of_ble_eq_true rfl) ?_
   intro hat B X w0
   repeat' first | refine Zad rfl ?_ | refine Zac ?_ | refine wR ?_ | (refine rc (h1) rfl ?_ ?_; (· first | rfl | simp (disch := omega) only [go_sem, simprocAttr, List.append_eq])) | (refine Zaa rfl rfl (fun hc => ?_) (fun hc => ?_) <;> try simp only [hcL] at hc) | (refine Zab _ rfl rfl (fun hc => ?_) (fun hc => ?_) <;> (try simp only [hcL] at hc) <;> try omega) | simp (disch := omega) only [go_sem, simprocAttr, List.append_eq] | apply And.intro | omega | decide +kernel
   refine ⟨_, rfl, ⟨_, _, _, _, rfl, ?_⟩, Zar rfl, Zar rfl, trivial⟩
   simp (disch := omega) only [go_sem, simprocAttr, toD]
   rfl
  ·have hn : ¬ (0 ≤ r ∧ r ≤ 100) := fun h => hall ⟨hv, h⟩
   refine Zaf Tryz.func17 rfl (by decide +kernel) (Nat.le_of_ble_eq_true rfl) ?_
   intro hat B X w0
   repeat' first | refine Zad rfl ?_ | refine Zac ?_ | refine wR ?_ | (refine rc (h1) rfl ?_ ?_; (· first | rfl | simp (disch := omega) only [go_sem, simprocAttr, List.append_eq])) | (refine Zaa rfl rfl (fun hc => ?_) (fun hc => ?_) <;> try simp only [hcL] at hc) | (refine Zab _ rfl rfl (fun hc => ?_) (fun hc => ?_) <;> (try simp only [hcL] at hc) <;> try omega) | simp (disch := omega) only [go_sem, simprocAttr, List.append_eq] | apply And.intro | omega | decide +kernel
   all_goals
    refine ⟨_, rfl, ⟨_, _, _, _, rfl, ?_⟩, Zar rfl, Zar rfl, trivial⟩
    simp (disch := omega) only [go_sem, simprocAttr, toD]
    rfl
end Go.Proofs.YtldbcbclhpcofaaGreat
namespace Go.Proofs.YtldbcbclhpcofaaGreat
open Go Go.PS Go.Proofs
set_option maxRecDepth 100000
attribute [local irreducible] Zax wpG Zah Zai

theorem fix_eq {i t : Nat} (h : t < 2) : (i : Int) - 1 + 2 * (t : Int) = fixT i t := by
 rw [fixT]; split <;> omega
set_option maxHeartbeats 16000000 in
theorem oSum_spec (a : Lv) (i : Nat) (hw : wide a) (hv : Zay a = true) (hil : i < a.2.1.length) :
  Zah Tryz.prog 60 [lvD a, .int i] (Zaj (orM a i)) := by
 obtain ⟨y, hy⟩ := Zan hil
 obtain ⟨t1, t2⟩ := Zcq hv
 have hyl := Zbq (List.mem_of_getElem? hy)
 have hacc := accC_le a [] (lstN a.2.1 i) (w := 0) (by decide) i
 have haccS : ∀ t u v, accC a [] (lstN a.2.1 i) 0 i (t + 1) u v = accC a [] (lstN a.2.1 i) 0 i t u v + Zao (Zau a i (fixT i t)) u v := fun _ _ _ => rfl
 have haccZ := accC_zero a i
 have hMsq : ∀ t, Sq (Zau a i (fixT i t)) := fun t => MatrixF_sq a i (fixT i t)
 have hMlen : ∀ t, (Zau a i (fixT i t)).length = 0 ∨ (Zau a i (fixT i t)).length = y.length := fun t => by
  rw [Zau]
  split
  ·right
   simp [matF, endsF, lenAt, hy]
  ·left; rfl
 have hMs : ∀ t, Zah Tryz.prog 30 [lvD a, .int i, .int (fixT i t)] (Zaj (Zau a i (fixT i t))) := fun t => rMatrix_spec a i (fixT i t) hw
 rw [orM, stM]
 rw [Zbo hy] at *
 generalize accC a [] y 0 i = A at *
 obtain ⟨Q, hQ⟩ : ∃ Q : Nat → List (List Int), ∀ t, Zau a i (fixT i t) = Q t := ⟨_, fun _ => rfl⟩
 simp only [hQ] at *
 obtain ⟨N, hN⟩ : ∃ N, N = y.length := ⟨_, rfl⟩
 have hN5 : N ≤ 512 := by omega
 obtain ⟨n, ls, ar, cs⟩ := a
 dsimp only at *
 rw [← hN]
 refine Zaf Tryz.func60 rfl (by decide +kernel) (Nat.le_of_ble_eq_true rfl) ?_
 intro hat B X w0
 repeat' first | refine Zad rfl ?_ | refine Zac ?_ | refine Zcx (Nat.beq 11) hmix ?_ | (refine Zaa rfl rfl (fun hc => ?_) (fun hc => ?_) <;> try simp only [hcL] at hc) | (refine Zab _ rfl rfl (fun hc => ?_) (fun hc => ?_) <;> (try simp only [hcL] at hc) <;> try omega) | simp (disch := omega) only [go_sem, simprocAttr] | apply And.intro | omega | decide +kernel
 refine Zaq (κ := Nat) (fun k => k ≤ N) (fun k => [(1, .int i), (2, .ptr 2 0 0 0), (5, .ref 901 1 0 k k), (6, .int k)])
  (fun k => match k with | 0 => [] | j + 1 => [⟨1, 901, 1, j + 1, fun _ => (List.replicate N 0).map D.int⟩])
  (fun k => match k with | 0 => [(2, .cells [.int n, .d (Zaj ls), .d (Zal ar), .d (Zaj cs)]), (901, .row 1 [])] | j + 1 => [(2, .cells [.int n, .d (Zaj ls), .d (Zal ar), .d (Zaj cs)])]) (fun k => N - k) 0 ?_ ?_ ?_
 ·exact Nat.zero_le _
 ·refine eF [] [(901, 11)] _ _ _ (by refine ⟨?_, ?_⟩ <;> (repeat' first | exact fmn | refine fmc ⟨(by first | rfl | (simp (disch := omega) only [go_sem, simprocAttr, inL]; first | done | omega | (congr 1; done))), ?_⟩); done) ?_
  repeat' first | exact fmn | refine fmc ⟨?_, ?_⟩
  all_goals refine ⟨_, (by first | rfl | (simp (disch := omega) only [go_sem, simprocAttr]; done) | (simp (disch := omega) only [go_sem, simprocAttr]; rfl)), fun i hi => ?_⟩
  all_goals dsimp only at hi ⊢
  all_goals try (exfalso; omega)
  all_goals try (simp (disch := omega) only [go_sem, simprocAttr, Zaw, Zav]; done)
 ·intro k hk
  rcases Nat.lt_or_ge k N with hkN | hkN
  ·cases k with
   | zero =>
    dsimp only
    repeat' first | refine Zad rfl ?_ | refine Zac ?_ | refine wR ?_ | (refine Zaa rfl rfl (fun hc => ?_) (fun hc => ?_) <;> try simp only [hcL] at hc) | (refine Zab _ rfl rfl (fun hc => ?_) (fun hc => ?_) <;> (try simp only [hcL] at hc) <;> try omega) | simp (disch := omega) only [go_sem, simprocAttr, List.append_eq, hy, ← hN, Zbb, List.isEmpty_nil] | apply And.intro | omega | decide +kernel
    refine ⟨1, ?_, eF [(fid 1 0, 29)] [(901, 31)] _ _ _ (by refine ⟨?_, ?_⟩ <;> (repeat' first | exact fmn | refine fmc ⟨(by first | rfl | (simp (disch := omega) only [go_sem, simprocAttr, inL, List.map_replicate, List.length_replicate]; first | done | omega | (congr 1; done))), ?_⟩); done) ?_, ?_⟩
    ·omega
    ·refine List.forall_mem_cons.2 ⟨⟨fun _ => .ref 29 1 0 N N, ?_, fun r hr => ?_⟩, List.forall_mem_nil _⟩
     ·rw [refs_one]
      simp (disch := omega) only [go_sem, simprocAttr, List.isEmpty_nil]
     ·obtain rfl : r = 0 := by dsimp only at hr; omega
      simp (disch := omega) only [go_sem, simprocAttr, List.map_replicate, List.length_replicate]
    ·omega
   | succ k =>
    dsimp only
    repeat' first | refine Zad rfl ?_ | refine Zac ?_ | refine wR ?_ | (refine Zaa rfl rfl (fun hc => ?_) (fun hc => ?_) <;> try simp only [hcL] at hc) | (refine Zab _ rfl rfl (fun hc => ?_) (fun hc => ?_) <;> (try simp only [hcL] at hc) <;> try omega) | simp (disch := omega) only [go_sem, simprocAttr, List.append_eq, hy, ← hN, Zbb] | apply And.intro | omega | decide +kernel
    refine ⟨k + 2, ?_, eF [(fid 1 (k + 1), 29)] [(901, 31)] _ _ _ (by refine ⟨?_, ?_⟩ <;> (repeat' first | exact fmn | refine fmc ⟨(by first | rfl | (simp (disch := omega) only [go_sem, simprocAttr, inL, List.map_replicate, List.length_replicate]; first | done | omega | (congr 1; done))), ?_⟩); done) ?_, ?_⟩
    ·omega
    ·repeat' first | exact fmn | refine fmc ⟨?_, ?_⟩
     all_goals refine ⟨_, (by first | rfl | (simp (disch := omega) only [go_sem, simprocAttr, List.map_replicate, List.length_replicate]; done) | (simp (disch := omega) only [go_sem, simprocAttr, List.map_replicate, List.length_replicate]; rfl)), fun i hi => ?_⟩
     all_goals dsimp only at hi ⊢
     all_goals rcases Decidable.em (i = k+1) with rfl | hi0
     all_goals try (exfalso; omega)
     all_goals try (simp (disch := omega) only [go_sem, simprocAttr, List.map_replicate, List.length_replicate, Zaw, Zav]; done)
     all_goals try (simp (disch := omega) only [go_sem, simprocAttr, List.map_replicate, List.length_replicate, hi0, Zaw, Zav]; done)
    ·omega
  ·cases k with
   | zero =>
    obtain rfl : N = 0 := by omega
    have hQ0 : ∀ t, (Q t).length = 0 := fun t => by have := hMlen t; omega
    dsimp only
    repeat' first | refine Zad rfl ?_ | refine Zac ?_ | refine wR ?_ | (refine Zaa rfl rfl (fun hc => ?_) (fun hc => ?_) <;> try simp only [hcL] at hc) | (refine Zab _ rfl rfl (fun hc => ?_) (fun hc => ?_) <;> (try simp only [hcL] at hc) <;> try omega) | simp (disch := omega) only [go_sem, simprocAttr, List.append_eq, hy, ← hN] | apply And.intro | omega | decide +kernel
    refine Zap (κ := Nat) (fun (t : Nat) => t ≤ 2) (fun (t : Nat) => [(1, .int i), (2, .ptr 2 0 0 0), (5, .ref 901 1 0 0 0), (7, .int ((i : Int) - 1 + 2 * (t : Int)))]) (fun (t : Nat) => [(2, .cells [.int n, .d (Zaj ls), .d (Zal ar), .d (Zaj cs)]), (901, .row 1 [])]) (fun (t : Nat) => 2 - t) 0 ?_ ?_ ?_
    ·exact Nat.zero_le _
    ·exact eL [] _ _ (by refine ⟨?_, ?_⟩ <;> (repeat' first | exact fmn | refine fmc ⟨(by first | rfl | (simp (disch := omega) only [go_sem, simprocAttr, inL, Int.natCast_zero, Int.mul_zero, Int.add_zero]; first | done | omega | (congr 1; done))), ?_⟩); done)
    ·intro t ht
     rcases Nat.lt_or_ge t 2 with hlt2 | hge2
     ·have hM := hMs t
      have hq0 := hQ0 t
      have e0 := fix_eq (i := i) hlt2
      have e1 : (i : Int) - 1 + 2 * (t : Int) + 2 = (i : Int) - 1 + 2 * ((t + 1 : Nat) : Int) := by omega
      have e2 : fixT i t + 2 = (i : Int) - 1 + 2 * ((t + 1 : Nat) : Int) := by rw [← e0]; omega
      have b0 : fixT i t ≤ (i : Int) + 1 ∧ (i : Int) - 1 ≤ fixT i t := by rw [← e0]; omega
      rw [e0]
      generalize Q t = R at *
      generalize fixT i t = fx at *
      repeat' first | refine Zad rfl ?_ | refine Zac ?_ | refine wR ?_ | (refine rc (hM) rfl ?_ ?_; (· first | rfl | simp (disch := omega) only [go_sem, simprocAttr])) | (refine Zaa rfl rfl (fun hc => ?_) (fun hc => ?_) <;> try simp only [hcL] at hc) | (refine Zab _ rfl rfl (fun hc => ?_) (fun hc => ?_) <;> (try simp only [hcL] at hc) <;> try omega) | simp (disch := omega) only [go_sem, simprocAttr] | apply And.intro | omega | decide +kernel
      refine Zap (κ := Nat) (fun (c : Nat) => c ≤ R.length) (fun (c : Nat) => [(1, .int i), (2, .ptr 2 0 0 0), (5, .ref 901 1 0 0 0), (7, .int fx), (8, .d (Zaj R)), (9, .int c)]) (fun (c : Nat) => [(2, .cells [.int n, .d (Zaj ls), .d (Zal ar), .d (Zaj cs)]), (901, .row 1 [])]) (fun (c : Nat) => R.length - c) 0 ?_ ?_ ?_
      ·exact Nat.zero_le _
      ·exact eL [] _ _ (by refine ⟨?_, ?_⟩ <;> (repeat' first | exact fmn | refine fmc ⟨(by first | rfl | (simp (disch := omega) only [go_sem, simprocAttr, inL]; first | done | omega | (congr 1; done))), ?_⟩); done)
      ·intro c hc0
       repeat' first | refine Zad rfl ?_ | refine Zac ?_ | refine wR ?_ | (refine Zaa rfl rfl (fun hc => ?_) (fun hc => ?_) <;> try simp only [hcL] at hc) | (refine Zab _ rfl rfl (fun hc => ?_) (fun hc => ?_) <;> (try simp only [hcL] at hc) <;> try omega) | simp (disch := omega) only [go_sem, simprocAttr] | apply And.intro | omega | decide +kernel
       refine ⟨t + 1, ?_, eL [] _ _ (by refine ⟨?_, ?_⟩ <;> (repeat' first | exact fmn | refine fmc ⟨(by first | rfl | (simp (disch := omega) only [go_sem, simprocAttr, inL, e2]; first | done | omega | (congr 1; done))), ?_⟩); done), ?_⟩
       ·omega
       ·omega
     ·have : t = 2 := by omega
      subst this
      repeat' first | refine Zad rfl ?_ | refine Zac ?_ | refine wR ?_ | (refine Zaa rfl rfl (fun hc => ?_) (fun hc => ?_) <;> try simp only [hcL] at hc) | (refine Zab _ rfl rfl (fun hc => ?_) (fun hc => ?_) <;> (try simp only [hcL] at hc) <;> try omega) | simp (disch := omega) only [go_sem, simprocAttr] | apply And.intro | omega | decide +kernel
      refine Zci (o := 901) rfl rfl (by simp) ?_
      simp [sqM]
   | succ k =>
    obtain rfl : N = k + 1 := by omega
    have hz0 : ∀ r, (rowG (A 0 r) (k + 1)).map D.int = List.replicate (k + 1) (D.int 0) := fun r => by
     rw [rowG_zero]; congr 1; exact Zco fun v _ => haccZ r v
    have hiN : ∀ (j : Nat) (x y : List D), j < k + 1 → (if j < k + 1 then x else y) = x := fun j x y h => if_pos h
    dsimp only
    repeat' first | refine Zad rfl ?_ | refine Zac ?_ | refine wR ?_ | (refine Zaa rfl rfl (fun hc => ?_) (fun hc => ?_) <;> try simp only [hcL] at hc) | (refine Zab _ rfl rfl (fun hc => ?_) (fun hc => ?_) <;> (try simp only [hcL] at hc) <;> try omega) | simp (disch := omega) only [go_sem, simprocAttr, List.append_eq, hy, ← hN] | apply And.intro | omega | decide +kernel
    refine Zaq (κ := Nat) (fun (t : Nat) => t ≤ 2) (fun (t : Nat) => [(1, .int i), (2, .ptr 2 0 0 0), (5, .ref 901 1 0 (k + 1) (k + 1)), (7, .int ((i : Int) - 1 + 2 * (t : Int)))]) (fun (t : Nat) => [⟨1, 901, 1, k + 1, fun j => (rowG (A t j) (k + 1)).map D.int⟩]) (fun (t : Nat) => [(2, .cells [.int n, .d (Zaj ls), .d (Zal ar), .d (Zaj cs)])]) (fun (t : Nat) => 2 - t) 0 ?_ ?_ ?_
    ·exact Nat.zero_le _
    ·refine eF [] [] _ _ _ (by refine ⟨?_, ?_⟩ <;> (repeat' first | exact fmn | refine fmc ⟨(by first | rfl | (simp (disch := omega) only [go_sem, simprocAttr, inL, Int.natCast_zero, Int.mul_zero, Int.add_zero]; first | done | omega | (congr 1; done))), ?_⟩); done) ?_
     repeat' first | exact fmn | refine fmc ⟨?_, ?_⟩
     all_goals refine ⟨_, (by first | rfl | (simp (disch := omega) only [go_sem, simprocAttr, hz0, List.map_replicate, List.length_replicate]; done) | (simp (disch := omega) only [go_sem, simprocAttr, hz0, List.map_replicate, List.length_replicate]; rfl)), fun i hi => ?_⟩
     all_goals dsimp only at hi ⊢
     all_goals try (exfalso; omega)
     all_goals try (simp (disch := omega) only [go_sem, simprocAttr, hz0, List.map_replicate, List.length_replicate, Zaw, Zav]; done)
    ·intro t ht
     rcases Nat.lt_or_ge t 2 with hlt2 | hge2
     ·have hM := hMs t
      have hsq := hMsq t
      have hml := hMlen t
      have hS := haccS t
      have e0 := fix_eq (i := i) hlt2
      have e2 : fixT i t + 2 = (i : Int) - 1 + 2 * ((t + 1 : Nat) : Int) := by rw [← e0]; omega
      have b0 : fixT i t ≤ (i : Int) + 1 ∧ (i : Int) - 1 ≤ fixT i t := by rw [← e0]; omega
      rw [e0]
      generalize hR : Q t = R at *
      generalize fixT i t = fx at *
      repeat' first | refine Zad rfl ?_ | refine Zac ?_ | refine wR ?_ | (refine rc (hM) rfl ?_ ?_; (· first | rfl | simp (disch := omega) only [go_sem, simprocAttr])) | (refine Zaa rfl rfl (fun hc => ?_) (fun hc => ?_) <;> try simp only [hcL] at hc) | (refine Zab _ rfl rfl (fun hc => ?_) (fun hc => ?_) <;> (try simp only [hcL] at hc) <;> try omega) | simp (disch := omega) only [go_sem, simprocAttr] | apply And.intro | omega | decide +kernel
      refine Zaq (κ := Nat) (fun (c : Nat) => c ≤ R.length) (fun (c : Nat) => [(1, .int i), (2, .ptr 2 0 0 0), (5, .ref 901 1 0 (k + 1) (k + 1)), (7, .int fx), (8, .d (Zaj R)), (9, .int c)]) (fun (c : Nat) => [⟨1, 901, 1, k + 1, fun j => if j < c then (rowG (A (t + 1) j) (k + 1)).map D.int else (rowG (A t j) (k + 1)).map D.int⟩]) (fun (c : Nat) => [(2, .cells [.int n, .d (Zaj ls), .d (Zal ar), .d (Zaj cs)])]) (fun (c : Nat) => R.length - c) 0 ?_ ?_ ?_
      ·exact Nat.zero_le _
      ·refine eF [] [] _ _ _ (by refine ⟨?_, ?_⟩ <;> (repeat' first | exact fmn | refine fmc ⟨(by first | rfl | (simp (disch := omega) only [go_sem, simprocAttr, inL]; first | done | omega | (congr 1; done))), ?_⟩); done) ?_
       repeat' first | exact fmn | refine fmc ⟨?_, ?_⟩
       all_goals refine ⟨_, (by first | rfl | (simp (disch := omega) only [go_sem, simprocAttr, Nat.not_lt_zero]; done) | (simp (disch := omega) only [go_sem, simprocAttr, Nat.not_lt_zero]; rfl)), fun i hi => ?_⟩
       all_goals dsimp only at hi ⊢
       all_goals try (exfalso; omega)
       all_goals try (simp (disch := omega) only [go_sem, simprocAttr, Nat.not_lt_zero, Zaw, Zav]; done)
      ·intro c hc0
       rcases Nat.lt_or_ge c R.length with hlc | hgc
       ·have hRN : R.length = k + 1 := by omega
        obtain ⟨r, hr⟩ := Zan hlc
        have hrl := hsq.row r (List.mem_of_getElem? hr)
        have hrN : r.length = k + 1 := by omega
        have hnu : ¬ c < c := by omega
        repeat' first | refine Zad rfl ?_ | refine Zac ?_ | refine wR ?_ | (refine Zaa rfl rfl (fun hc => ?_) (fun hc => ?_) <;> try simp only [hcL] at hc) | (refine Zab _ rfl rfl (fun hc => ?_) (fun hc => ?_) <;> (try simp only [hcL] at hc) <;> try omega) | simp (disch := omega) only [go_sem, simprocAttr, hRN] | apply And.intro | omega | decide +kernel
        refine Zaq (κ := Nat) (fun (b : Nat) => b ≤ k + 1) (fun (b : Nat) => [(1, .int i), (2, .ptr 2 0 0 0), (5, .ref 901 1 0 (k + 1) (k + 1)), (7, .int fx), (8, .d (Zaj R)), (9, .int c), (10, .int b)]) (fun (b : Nat) => [⟨1, 901, 1, k + 1, fun j => if j < c then (rowG (A (t + 1) j) (k + 1)).map D.int else if j = c then (mixR (A t c) (A (t + 1) c) (k + 1) b).map D.int else (rowG (A t j) (k + 1)).map D.int⟩]) (fun (b : Nat) => [(2, .cells [.int n, .d (Zaj ls), .d (Zal ar), .d (Zaj cs)])]) (fun (b : Nat) => k + 1 - b) 0 ?_ ?_ ?_
        ·exact Nat.zero_le _
        ·refine eF [] [] _ _ _ (by refine ⟨?_, ?_⟩ <;> (repeat' first | exact fmn | refine fmc ⟨(by first | rfl | (simp (disch := omega) only [go_sem, simprocAttr, inL]; first | done | omega | (congr 1; done))), ?_⟩); done) ?_
         repeat' first | exact fmn | refine fmc ⟨?_, ?_⟩
         all_goals refine ⟨_, (by first | rfl | (simp (disch := omega) only [go_sem, simprocAttr, hnu, mixR_zero]; done) | (simp (disch := omega) only [go_sem, simprocAttr, hnu, mixR_zero]; rfl)), fun i hi => ?_⟩
         all_goals dsimp only at hi ⊢
         all_goals rcases Decidable.em (i = c) with rfl | hi0
         all_goals try (exfalso; omega)
         all_goals try (simp (disch := omega) only [go_sem, simprocAttr, hnu, mixR_zero, Zaw, Zav]; done)
         all_goals try (simp (disch := omega) only [go_sem, simprocAttr, hnu, mixR_zero, hi0, Zaw, Zav]; done)
        ·intro b hb
         have hfl2 := mixR_len (A t c) (A (t + 1) c) (k + 1) b
         rcases Nat.lt_or_ge b (k + 1) with hlb | hgb
         ·obtain ⟨p, hp, _, hpv, g1, g2⟩ := hsq.get hlc (show b < R.length by omega)
          rw [hr, Option.some.injEq] at hp
          rw [← hp] at hpv
          have hcell := hS c b
          have ha := hacc t c b
          have hg : (mixR (A t c) (A (t + 1) c) (k + 1) b)[b]? = some (A t c b) := mixR_get hlb
          have hst : (mixR (A t c) (A (t + 1) c) (k + 1) b).set b (A (t + 1) c b) = mixR (A t c) (A (t + 1) c) (k + 1) (b + 1) := mixR_step hlb
          rw [hcell] at hst
          refine Zbd _ (ent_bor _ _ [2, 901] 901 c 900 1 1 (k + 1) (by first | rfl | (simp (disch := omega) only [go_sem, simprocAttr, hnu, hfl2]; done) | (simp (disch := omega) only [go_sem, simprocAttr, hnu, hfl2]; rfl)) (by first | (simp (disch := omega) only [go_sem, simprocAttr, hnu, hfl2]; done) | (simp (disch := omega) only [go_sem, simprocAttr, hnu, hfl2]; rfl)) (by first | (simp (disch := omega) only [go_sem, simprocAttr, hnu, hfl2]; done) | (simp (disch := omega) only [go_sem, simprocAttr, hnu, hfl2]; rfl)) (fun i hi hne => by simp (disch := omega) only [go_sem, simprocAttr, hne, hnu, hfl2]; (repeat' split) <;> exact .ref _ _ _ _ _ ⟨by simp (disch := omega) only [go_sem, simprocAttr, hne, hnu, hfl2], by simp (disch := omega) only [go_sem, simprocAttr, hne, hnu, hfl2]⟩) (by (repeat' first | refine ab_nil ?_ | exact ab_obOf (ids := [2, 901]) rfl rfl (Nat.le_of_ble_eq_true rfl) | refine ab_hole ?_ | refine ab_row ?_ | refine ab_dead ?_ | refine ab_self ?_ | refine Zcv ?_ | refine ab_fam (by dsimp only; omega) (by dsimp only; omega) (by omega) (by omega) (Nat.le_of_ble_eq_true rfl) ?_); done) rfl rfl rfl) ?_
          repeat' first | refine Zad rfl ?_ | refine Zac ?_ | refine wR ?_ | (refine Zaa rfl rfl (fun hc => ?_) (fun hc => ?_) <;> try simp only [hcL] at hc) | (refine Zab _ rfl rfl (fun hc => ?_) (fun hc => ?_) <;> (try simp only [hcL] at hc) <;> try omega) | simp (disch := omega) only [go_sem, simprocAttr, hr, hrN, hRN, hpv, hg, hfl2, hnu] | apply And.intro | omega | decide +kernel
          refine ⟨b + 1, ?_, eF [(fid 1 c, 900)] [] _ _ _ (by refine ⟨?_, ?_⟩ <;> (repeat' first | exact fmn | refine fmc ⟨(by first | rfl | (simp (disch := omega) only [go_sem, simprocAttr, inL]; first | done | omega | (congr 1; done))), ?_⟩); done) ?_, ?_⟩
          ·omega
          ·repeat' first | exact fmn | refine fmc ⟨?_, ?_⟩
           all_goals refine ⟨_, (by first | rfl | (simp (disch := omega) only [go_sem, simprocAttr, hst.symm, List.map_set, List.length_set, List.length_map, hfl2, hnu]; done) | (simp (disch := omega) only [go_sem, simprocAttr, hst.symm, List.map_set, List.length_set, List.length_map, hfl2, hnu]; rfl)), fun i hi => ?_⟩
           all_goals dsimp only at hi ⊢
           all_goals rcases Decidable.em (i = c) with rfl | hi0
           all_goals try (exfalso; omega)
           all_goals try (simp (disch := omega) only [go_sem, simprocAttr, hst.symm, List.map_set, List.length_set, List.length_map, hfl2, hnu, Zaw, Zav]; done)
           all_goals try (simp (disch := omega) only [go_sem, simprocAttr, hst.symm, List.map_set, List.length_set, List.length_map, hfl2, hnu, hi0, Zaw, Zav]; done)
          ·omega
         ·have : b = k + 1 := by omega
          subst this
          have hsu : ∀ i, i ≠ c → ((i < c + 1) = (i < c)) := fun i h => propext (by omega)
          repeat' first | refine Zad rfl ?_ | refine Zac ?_ | refine wR ?_ | (refine Zaa rfl rfl (fun hc => ?_) (fun hc => ?_) <;> try simp only [hcL] at hc) | (refine Zab _ rfl rfl (fun hc => ?_) (fun hc => ?_) <;> (try simp only [hcL] at hc) <;> try omega) | simp (disch := omega) only [go_sem, simprocAttr, hRN] | apply And.intro | omega | decide +kernel
          refine ⟨c + 1, ?_, eF [] [] _ _ _ (by refine ⟨?_, ?_⟩ <;> (repeat' first | exact fmn | refine fmc ⟨(by first | rfl | (simp (disch := omega) only [go_sem, simprocAttr, inL]; first | done | omega | (congr 1; done))), ?_⟩); done) ?_, ?_⟩
          ·omega
          ·repeat' first | exact fmn | refine fmc ⟨?_, ?_⟩
           all_goals refine ⟨_, (by first | rfl | (simp (disch := omega) only [go_sem, simprocAttr, hnu, hsu, Nat.lt_add_one, mixR_full]; done) | (simp (disch := omega) only [go_sem, simprocAttr, hnu, hsu, Nat.lt_add_one, mixR_full]; rfl)), fun i hi => ?_⟩
           all_goals dsimp only at hi ⊢
           all_goals rcases Decidable.em (i = c) with rfl | hi0
           all_goals try (exfalso; omega)
           all_goals try (simp (disch := omega) only [go_sem, simprocAttr, hnu, hsu, Nat.lt_add_one, mixR_full, Zaw, Zav]; done)
           all_goals try (simp (disch := omega) only [go_sem, simprocAttr, hnu, hsu, Nat.lt_add_one, mixR_full, hi0, Zaw, Zav]; done)
          ·omega
       ·have : R.length = c := by omega
        subst this
        repeat' first | refine Zad rfl ?_ | refine Zac ?_ | refine wR ?_ | (refine Zaa rfl rfl (fun hc => ?_) (fun hc => ?_) <;> try simp only [hcL] at hc) | (refine Zab _ rfl rfl (fun hc => ?_) (fun hc => ?_) <;> (try simp only [hcL] at hc) <;> try omega) | simp (disch := omega) only [go_sem, simprocAttr] | apply And.intro | omega | decide +kernel
        rcases hml with hml | hml
        ·have hsame : ∀ j, rowG (A (t + 1) j) (k + 1) = rowG (A t j) (k + 1) := fun j => Zco fun v _ => by
          rw [hS, Zao, lstN_out (by omega)]; simp [at0]
         refine ⟨t + 1, ?_, eF [] [] _ _ _ (by refine ⟨?_, ?_⟩ <;> (repeat' first | exact fmn | refine fmc ⟨(by first | rfl | (simp (disch := omega) only [go_sem, simprocAttr, inL, e2]; first | done | omega | (congr 1; done))), ?_⟩); done) ?_, ?_⟩
         ·omega
         ·repeat' first | exact fmn | refine fmc ⟨?_, ?_⟩
          all_goals refine ⟨_, (by first | rfl | (simp (disch := omega) only [go_sem, simprocAttr, hml, Nat.not_lt_zero, hsame]; done) | (simp (disch := omega) only [go_sem, simprocAttr, hml, Nat.not_lt_zero, hsame]; rfl)), fun i hi => ?_⟩
          all_goals dsimp only at hi ⊢
          all_goals try (exfalso; omega)
          all_goals try (simp (disch := omega) only [go_sem, simprocAttr, hml, Nat.not_lt_zero, hsame, Zaw, Zav]; done)
         ·omega
        ·have hRN : R.length = k + 1 := by omega
         refine ⟨t + 1, ?_, eF [] [] _ _ _ (by refine ⟨?_, ?_⟩ <;> (repeat' first | exact fmn | refine fmc ⟨(by first | rfl | (simp (disch := omega) only [go_sem, simprocAttr, inL, e2]; first | done | omega | (congr 1; done))), ?_⟩); done) ?_, ?_⟩
         ·omega
         ·repeat' first | exact fmn | refine fmc ⟨?_, ?_⟩
          all_goals refine ⟨_, (by first | rfl | (simp (disch := omega) only [go_sem, simprocAttr, hRN, hiN]; done) | (simp (disch := omega) only [go_sem, simprocAttr, hRN, hiN]; rfl)), fun i hi => ?_⟩
          all_goals dsimp only at hi ⊢
          all_goals try (exfalso; omega)
          all_goals try (simp (disch := omega) only [go_sem, simprocAttr, hRN, hiN, Zaw, Zav]; done)
         ·omega
     ·have : t = 2 := by omega
      subst this
      try dsimp only
      refine Zbd _ (Zcp _ _ _ _ ⟨Zba rfl, Zba rfl, (by (repeat' first | exact fmn | refine fmc ⟨⟨Nat.le_of_ble_eq_true rfl, Nat.le_of_ble_eq_true rfl, by dsimp only; omega⟩, ?_⟩); done)⟩ rfl [2, 901] rfl rfl rfl rfl) ?_
      repeat' first | refine Zad rfl ?_ | refine Zac ?_ | refine wR ?_ | (refine Zaa rfl rfl (fun hc => ?_) (fun hc => ?_) <;> try simp only [hcL] at hc) | (refine Zab _ rfl rfl (fun hc => ?_) (fun hc => ?_) <;> (try simp only [hcL] at hc) <;> try omega) | simp (disch := omega) only [go_sem, simprocAttr] | apply And.intro | omega | decide +kernel
      refine Zci (o := 901) rfl rfl (by simp) ?_
      rw [List.take_of_length_le (by simp), sqM, List.map_map, List.range_succ]
      rfl
end Go.Proofs.YtldbcbclhpcofaaGreat
