/- Ordering: the program. -/
import Derived.Test.YtldbcbclhpcofaaGreatBaD
import Derived.Test.YtldbcbclhpcofaaGreatE
set_option linter.unusedSimpArgs false
set_option linter.unusedVariables false
namespace Go.Proofs.YtldbcbclhpcofaaGreat
open Go Go.PS Go.Proofs
open Go.Bd (sm sumC Part)
set_option maxRecDepth 100000
attribute [local irreducible] wpRun wpG CallsTo CallsM

set_option maxHeartbeats 8000000 in
theorem own_spec (a : Lv) (h : validF a = true) : CallsTo Tryz.prog 36 [lvD a] (lvD a) := by
 obtain ⟨s1, s2, s3⟩ := lv_sizes h
 obtain ⟨t1, t2⟩ := lv_le h
 have hca := cloneA_spec a.2.2.1 (by omega)
 have hl1 : ∀ (k : Nat) x, a.2.1[k]? = some x → CallsTo Tryz.prog 62 [intsD x] (intsD x) := fun k x hx => cloneI_spec x (by have := tot_mem (List.mem_of_getElem? hx); omega)
 have hl2 : ∀ (k : Nat) x, a.2.2.2[k]? = some x → CallsTo Tryz.prog 62 [intsD x] (intsD x) := fun k x hx => cloneI_spec x (by have := s3 x (List.mem_of_getElem? hx); omega)
 obtain ⟨n, ls, ar, cs⟩ := a
 dsimp only at *
 refine callsTo_of Tryz.func36 rfl (by decide +kernel) (Nat.le_of_ble_eq_true rfl) ?_
 intro hat B X w0
 repeat' first | refine pw_seq ?_ | refine pw_skip ?_ | refine pw_ret ?_ | refine pw_exit ?_ | refine pw_block ?_ | refine pw_region (fun _ => false) hmix ?_ | (refine rc (hca) rfl ?_ ?_; (· first | rfl | (simp (disch := omega) only [go_sem, simprocAttr]; done))) | (refine wpG_split rfl rfl (fun hc => ?_) (fun hc => ?_) <;> try simp only [hcL, reduceCtorEq] at hc) | (refine pw_cond _ rfl rfl (fun hc => ?_) (fun hc => ?_) <;> (try simp only [hcL, reduceCtorEq] at hc) <;> try (exfalso; omega)) | simp (maxSteps := 1000000) (disch := omega) only [go_sem, simprocAttr] | apply And.intro | omega | decide +kernel
 refine pw_ent _ (ent_nilC 3 1 901 1 rfl rfl rfl) ?_
 refine pw_loopI (κ := Nat) (fun (k : Nat) => k ≤ ls.length) (fun (k : Nat) => [(1, .ptr 1 0 0 0), (2, .ptr 2 0 0 0), (3, .ptr 3 0 0 0), (15, .d (listsD ls)), (16, .int ls.length), (17, .int k)]) (fun (k : Nat) => [(1, .cells [.int n, .d (listsD ls), .d (arcsD ar), .d (listsD cs)]), (2, .cells [.int 0, .nilS, .nilS, .nilS]), (3, .cells [.int n, .ref 901 1 0 k k, .d (arcsD ar), .nilS]), (901, .row 1 ((ls.take k).map intsD))]) (fun (k : Nat) => ls.length - k) 0 ?_ ?_ ?_
 ·exact Nat.zero_le _
 ·exact eL [] _ _ (by refine ⟨?_, ?_⟩ <;> (repeat' first | exact List.forall_mem_nil _ | refine List.forall_mem_cons.2 ⟨(by first | rfl | (simp (disch := omega) only [go_sem, simprocAttr, inL, List.take_zero, List.map_nil]; first | done | omega | (congr 1; done))), ?_⟩); done)
 ·intro k hk
  have hlk : (ls.take k).length = k := by rw [List.length_take]; omega
  have htk : ((ls.take k).map intsD).take k = (ls.take k).map intsD := List.take_of_length_le (by rw [List.length_map, hlk]; exact Nat.le_refl _)
  rcases Nat.lt_or_ge k ls.length with hlt | hge
  ·obtain ⟨x, hx⟩ := get_some hlt
   have hc1 := hl1 k x hx
   have e1 := take_snoc hx
   repeat' first | refine pw_seq ?_ | refine pw_skip ?_ | refine pw_ret ?_ | refine pw_exit ?_ | refine pw_block ?_ | refine pw_region (fun _ => false) hmix ?_ | (refine rc (hc1) rfl ?_ ?_; (· first | rfl | (simp (disch := omega) only [go_sem, simprocAttr, hx, hlk, htk, roomy]; done))) | (refine wpG_split rfl rfl (fun hc => ?_) (fun hc => ?_) <;> try simp only [hcL, reduceCtorEq] at hc) | (refine pw_cond _ rfl rfl (fun hc => ?_) (fun hc => ?_) <;> (try simp only [hcL, reduceCtorEq] at hc) <;> try (exfalso; omega)) | simp (maxSteps := 1000000) (disch := omega) only [go_sem, simprocAttr, hx, hlk, htk, roomy] | exact fun d hd => by rw [List.mem_singleton.1 hd]; rfl | apply And.intro | omega | decide +kernel
   refine ⟨k + 1, ?_, eL [(901, 26)] _ _ (by refine ⟨?_, ?_⟩ <;> (repeat' first | exact List.forall_mem_nil _ | refine List.forall_mem_cons.2 ⟨(by first | rfl | (simp (disch := omega) only [go_sem, simprocAttr, inL, e1, htk, List.map_append, List.map_cons, List.map_nil]; first | done | omega | (congr 1; done))), ?_⟩); done), ?_⟩
   ·omega
   ·omega
  ·have : k = ls.length := by omega
   subst this
   try dsimp only
   rw [List.take_length]
   repeat' first | refine pw_seq ?_ | refine pw_skip ?_ | refine pw_ret ?_ | refine pw_exit ?_ | refine pw_block ?_ | refine pw_region (fun _ => false) hmix ?_ | (refine wpG_split rfl rfl (fun hc => ?_) (fun hc => ?_) <;> try simp only [hcL, reduceCtorEq] at hc) | (refine pw_cond _ rfl rfl (fun hc => ?_) (fun hc => ?_) <;> (try simp only [hcL, reduceCtorEq] at hc) <;> try (exfalso; omega)) | simp (maxSteps := 1000000) (disch := omega) only [go_sem, simprocAttr] | apply And.intro | omega | decide +kernel
   refine pw_ent _ (ent_nilC 3 3 902 1 rfl rfl rfl) ?_
   refine pw_loopI (κ := Nat) (fun (k : Nat) => k ≤ cs.length) (fun (k : Nat) => [(2, .ptr 2 0 0 0), (3, .ptr 3 0 0 0), (30, .d (listsD cs)), (31, .int cs.length), (32, .int k)]) (fun (k : Nat) => [(2, .cells [.int 0, .nilS, .nilS, .nilS]), (3, .cells [.int n, .ref 901 1 0 ls.length ls.length, .d (arcsD ar), .ref 902 1 0 k k]), (901, .row 1 (ls.map intsD)), (902, .row 1 ((cs.take k).map intsD))]) (fun (k : Nat) => cs.length - k) 0 ?_ ?_ ?_
   ·exact Nat.zero_le _
   ·exact eL [] _ _ (by refine ⟨?_, ?_⟩ <;> (repeat' first | exact List.forall_mem_nil _ | refine List.forall_mem_cons.2 ⟨(by first | rfl | (simp (disch := omega) only [go_sem, simprocAttr, inL, List.take_zero, List.map_nil]; first | done | omega | (congr 1; done))), ?_⟩); done)
   ·intro k hk
    have hlk : (cs.take k).length = k := by rw [List.length_take]; omega
    have htk : ((cs.take k).map intsD).take k = (cs.take k).map intsD := List.take_of_length_le (by rw [List.length_map, hlk]; exact Nat.le_refl _)
    rcases Nat.lt_or_ge k cs.length with hlt | hge
    ·obtain ⟨x, hx⟩ := get_some hlt
     have hc1 := hl2 k x hx
     have e1 := take_snoc hx
     repeat' first | refine pw_seq ?_ | refine pw_skip ?_ | refine pw_ret ?_ | refine pw_exit ?_ | refine pw_block ?_ | refine pw_region (fun _ => false) hmix ?_ | (refine rc (hc1) rfl ?_ ?_; (· first | rfl | (simp (disch := omega) only [go_sem, simprocAttr, hx, hlk, htk, roomy]; done))) | (refine wpG_split rfl rfl (fun hc => ?_) (fun hc => ?_) <;> try simp only [hcL, reduceCtorEq] at hc) | (refine pw_cond _ rfl rfl (fun hc => ?_) (fun hc => ?_) <;> (try simp only [hcL, reduceCtorEq] at hc) <;> try (exfalso; omega)) | simp (maxSteps := 1000000) (disch := omega) only [go_sem, simprocAttr, hx, hlk, htk, roomy] | exact fun d hd => by rw [List.mem_singleton.1 hd]; rfl | apply And.intro | omega | decide +kernel
     refine ⟨k + 1, ?_, eL [(902, 41)] _ _ (by refine ⟨?_, ?_⟩ <;> (repeat' first | exact List.forall_mem_nil _ | refine List.forall_mem_cons.2 ⟨(by first | rfl | (simp (disch := omega) only [go_sem, simprocAttr, inL, e1, htk, List.map_append, List.map_cons, List.map_nil]; first | done | omega | (congr 1; done))), ?_⟩); done), ?_⟩
     ·omega
     ·omega
    ·have : k = cs.length := by omega
     subst this
     try dsimp only
     rw [List.take_length]
     repeat' first | refine pw_seq ?_ | refine pw_skip ?_ | refine pw_ret ?_ | refine pw_exit ?_ | refine pw_block ?_ | refine pw_region (fun _ => false) hmix ?_ | (refine wpG_split rfl rfl (fun hc => ?_) (fun hc => ?_) <;> try simp only [hcL, reduceCtorEq] at hc) | (refine pw_cond _ rfl rfl (fun hc => ?_) (fun hc => ?_) <;> (try simp only [hcL, reduceCtorEq] at hc) <;> try (exfalso; omega)) | simp (maxSteps := 1000000) (disch := omega) only [go_sem, simprocAttr] | apply And.intro | omega | decide +kernel
     refine ⟨_, _, _, _, rfl, ?_⟩
     simp (maxSteps := 1000000) (disch := omega) only [go_sem, simprocAttr, toD, List.length_map, Nat.le_refl, List.drop_zero]
     rw [take_map_len, take_map_len]
def nowI (m : List (List Int)) (A b : Nat) : Int := sm (fun j => if A < j then cellAt m A j else 0) b
def nowT (m : List (List Int)) (A : Nat) : Int := sm (fun A => nowI m A m.length) A
theorem nowI_in {m : List (List Int)} (hs : Sq m) (A b : Nat) : 0 ≤ nowI m A b ∧ nowI m A b ≤ 1000000 * b := Go.Bd.sm_bounds b fun k _ => by
 have := cellAt_le hs A k
 split <;> omega
theorem nowT_le {m : List (List Int)} (hs : Sq m) (h8 : m.length ≤ 8) (A : Nat) : 0 ≤ nowT m A ∧ nowT m A ≤ 8000000 * A :=
 Go.Bd.sm_bounds A fun k _ => by
  have := nowI_in hs k m.length
  omega
theorem nowI_split (m : List (List Int)) (A : Nat) : ∀ n, A < n → nowI m A n = sm (fun j => cellAt m A (A + 1 + j)) (n - 1 - A)
 | 0, h => by omega
 | n + 1, h => by
  have e : nowI m A (n + 1) = nowI m A n + (if A < n then cellAt m A n else 0) := rfl
  rw [e]
  by_cases c : A < n
  ·rw [nowI_split m A n c, if_pos c, show n + 1 - 1 - A = (n - 1 - A) + 1 by omega]
   have e2 : sm (fun j => cellAt m A (A + 1 + j)) (n - 1 - A + 1) = sm (fun j => cellAt m A (A + 1 + j)) (n - 1 - A) + cellAt m A (A + 1 + (n - 1 - A)) := rfl
   rw [e2, show A + 1 + (n - 1 - A) = n by omega]
  ·have : n = A := by omega
   subst this
   have z : ∀ k, k ≤ n → nowI m n k = 0 := by
    intro k
    induction k with
    | zero => intro _; rfl
    | succ k ih =>
     intro hk
     have e3 : nowI m n (k + 1) = nowI m n k + (if n < k then cellAt m n k else 0) := rfl
     rw [e3, ih (by omega), if_neg (by omega)]; rfl
   rw [z n (Nat.le_refl _), if_neg c, show n + 1 - 1 - n = 0 by omega]; rfl
theorem sm_congr {f g : Nat → Int} : ∀ n, (∀ k, k < n → f k = g k) → sm f n = sm g n
 | 0, _ => rfl
 | n + 1, h => by
  have e : ∀ f : Nat → Int, sm f (n + 1) = sm f n + f n := fun _ => rfl
  rw [e, e, sm_congr n fun k hk => h k (by omega), h n (by omega)]
theorem now_sum (m : List (List Int)) : nowT m m.length = sumC (cellAt m) (List.range m.length) := by
 rw [Go.Bd.sumC_range, nowT]
 exact sm_congr _ fun A hA => nowI_split m A _ hA
theorem osmall_spec (l : List Int) (hl : l.length ≤ 1000000) : CallsTo Tryz.prog 25 [intsD l] (.bool (decide (l.length ≤ 8))) := by
 refine callsTo_of Tryz.func25 rfl (by decide +kernel) (Nat.le_of_ble_eq_true rfl) ?_
 intro hat B X w0
 repeat' first | refine pw_seq ?_ | refine pw_skip ?_ | refine pw_ret ?_ | refine pw_exit ?_ | refine pw_block ?_ | refine pw_region (fun _ => false) hmix ?_ | (refine wpG_split rfl rfl (fun hc => ?_) (fun hc => ?_) <;> try simp only [hcL, reduceCtorEq] at hc) | (refine pw_cond _ rfl rfl (fun hc => ?_) (fun hc => ?_) <;> (try simp only [hcL, reduceCtorEq] at hc) <;> try (exfalso; omega)) | simp (maxSteps := 1000000) (disch := omega) only [go_sem, simprocAttr] | apply And.intro | omega | decide +kernel
 exact bool_some (by rw [Bool.eq_iff_iff]; simp only [decide_eq_true_eq]; omega)
set_option maxHeartbeats 8000000 in
theorem better_spec (a : Lv) (i : Nat) (hw : wide a) (hv : validF a = true) (har : a.2.2.1.length ≤ 700) (hil : i < a.2.1.length) :
  CallsTo Tryz.prog 34 [lvD a, .int i] (.tup [natsD (betF a i).1, .bool (betF a i).2]) := by
 obtain ⟨y, hy⟩ := get_some hil
 have hyl := tot_mem (List.mem_of_getElem? hy)
 obtain ⟨t1, t2⟩ := lv_le hv
 have h1 := osmall_spec y (by omega)
 rw [betF, lstN_at hy]
 by_cases h8 : 8 < y.length
 ·rw [if_pos h8]
  rw [decide_eq_false (by omega)] at h1
  obtain ⟨n, ls, ar, cs⟩ := a
  dsimp only at *
  refine callsTo_of Tryz.func34 rfl (by decide +kernel) (Nat.le_of_ble_eq_true rfl) ?_
  intro hat B X w0
  repeat' first | refine pw_seq ?_ | refine pw_skip ?_ | refine pw_ret ?_ | refine pw_exit ?_ | refine pw_block ?_ | refine pw_region (fun _ => false) hmix ?_ | (refine rc (h1) rfl ?_ ?_; (· first | rfl | (simp (disch := omega) only [go_sem, simprocAttr, hy]; done))) | (refine wpG_split rfl rfl (fun hc => ?_) (fun hc => ?_) <;> try simp only [hcL, reduceCtorEq] at hc) | (refine pw_cond _ rfl rfl (fun hc => ?_) (fun hc => ?_) <;> (try simp only [hcL, reduceCtorEq] at hc) <;> try (exfalso; omega)) | simp (maxSteps := 1000000) (disch := omega) only [go_sem, simprocAttr, hy] | apply And.intro | omega | decide +kernel
  exact ⟨_, rfl, sl_some rfl, bool_some rfl, trivial⟩
 ·rw [if_neg h8]
  rw [decide_eq_true (by omega)] at h1
  have h2 := omatrix_spec a i hw hv hil
  have hmok := orM_ok (i := i) har (by rw [lstN_at hy]; exact h8)
  have h3 := Least_spec (orM a i)
  rw [if_pos hmok] at h3
  obtain ⟨hs, hm8⟩ := ok_sq hmok
  have hml := orM_len a i
  rw [lstN_at hy] at hml
  have hns := now_sum (orM a i)
  have hbb : 0 ≤ (bestAll (orM a i)).2 ∧ (bestAll (orM a i)).2 ≤ 64000000 := by
   obtain ⟨g1, g2, _⟩ := Go.Bd.best_bounds hs.small hm8 (part_nil _) (bestAll_eq (orM a i))
   exact ⟨g1, g2⟩
  rw [betB, lstN_at hy, ← hml, ← hns]
  have hni := nowI_in hs
  have hnt := nowT_le hs hm8
  have hIs : ∀ A b, nowI (orM a i) A (b + 1) = nowI (orM a i) A b + (if A < b then cellAt (orM a i) A b else 0) := fun _ _ => rfl
  have hTs : ∀ A, nowT (orM a i) (A + 1) = nowT (orM a i) A + nowI (orM a i) A (orM a i).length := fun _ => rfl
  have hI0 : ∀ A, nowI (orM a i) A 0 = 0 := fun _ => rfl
  have hT0 : nowT (orM a i) 0 = 0 := rfl
  generalize orM a i = m at *
  generalize nowI m = I at *
  generalize nowT m = T at *
  generalize bestAll m = BB at *
  obtain ⟨p, cost⟩ := BB
  obtain ⟨n, ls, ar, cs⟩ := a
  dsimp only at *
  refine callsTo_of Tryz.func34 rfl (by decide +kernel) (Nat.le_of_ble_eq_true rfl) ?_
  intro hat B X w0
  repeat' first | refine pw_seq ?_ | refine pw_skip ?_ | refine pw_ret ?_ | refine pw_exit ?_ | refine pw_block ?_ | refine pw_region (fun _ => false) hmix ?_ | (refine rc (h1) rfl ?_ ?_; (· first | rfl | (simp (disch := omega) only [go_sem, simprocAttr, hy]; done))) | (refine rc (h2) rfl ?_ ?_; (· first | rfl | (simp (disch := omega) only [go_sem, simprocAttr, hy]; done))) | (refine wpG_split rfl rfl (fun hc => ?_) (fun hc => ?_) <;> try simp only [hcL, reduceCtorEq] at hc) | (refine pw_cond _ rfl rfl (fun hc => ?_) (fun hc => ?_) <;> (try simp only [hcL, reduceCtorEq] at hc) <;> try (exfalso; omega)) | simp (maxSteps := 1000000) (disch := omega) only [go_sem, simprocAttr, hy] | apply And.intro | omega | decide +kernel
  refine pw_loopI (κ := Nat) (fun (u : Nat) => u ≤ m.length) (fun (u : Nat) => [(6, .d (listsD m)), (7, .int (T u)), (24, .int m.length), (25, .int u)]) (fun (u : Nat) => []) (fun (u : Nat) => m.length - u) 0 ?_ ?_ ?_
  ·exact Nat.zero_le _
  ·exact eL [] _ _ (by refine ⟨?_, ?_⟩ <;> (repeat' first | exact List.forall_mem_nil _ | refine List.forall_mem_cons.2 ⟨(by first | rfl | (simp (disch := omega) only [go_sem, simprocAttr, inL, hT0]; first | done | omega | (congr 1; done))), ?_⟩); done)
  ·intro u hu
   have b1 := hnt u
   rcases Nat.lt_or_ge u m.length with hlt | hge
   ·have e1 := hTs u
    repeat' first | refine pw_seq ?_ | refine pw_skip ?_ | refine pw_ret ?_ | refine pw_exit ?_ | refine pw_block ?_ | refine pw_region (fun _ => false) hmix ?_ | (refine wpG_split rfl rfl (fun hc => ?_) (fun hc => ?_) <;> try simp only [hcL, reduceCtorEq] at hc) | (refine pw_cond _ rfl rfl (fun hc => ?_) (fun hc => ?_) <;> (try simp only [hcL, reduceCtorEq] at hc) <;> try (exfalso; omega)) | simp (maxSteps := 1000000) (disch := omega) only [go_sem, simprocAttr] | apply And.intro | omega | decide +kernel
    refine pw_loopI (κ := Nat) (fun (b : Nat) => b ≤ m.length) (fun (b : Nat) => [(6, .d (listsD m)), (7, .int (T u + I u b)), (8, .int u), (24, .int m.length), (25, .int u), (29, .int m.length), (30, .int b)]) (fun (b : Nat) => []) (fun (b : Nat) => m.length - b) 0 ?_ ?_ ?_
    ·exact Nat.zero_le _
    ·exact eL [] _ _ (by refine ⟨?_, ?_⟩ <;> (repeat' first | exact List.forall_mem_nil _ | refine List.forall_mem_cons.2 ⟨(by first | rfl | (simp (disch := omega) only [go_sem, simprocAttr, inL, hI0, Int.add_zero]; first | done | omega | (congr 1; done))), ?_⟩); done)
    ·intro b hb
     have b2 := hni u b
     rcases Nat.lt_or_ge b m.length with hlb | hgb
     ·obtain ⟨q, hq, hql, hqv, g1, g2⟩ := hs.get hlt hlb
      have e2 := hIs u b
      by_cases c : u < b
      ·rw [if_pos c] at e2
       repeat' first | refine pw_seq ?_ | refine pw_skip ?_ | refine pw_ret ?_ | refine pw_exit ?_ | refine pw_block ?_ | refine pw_region (fun _ => false) hmix ?_ | (refine wpG_split rfl rfl (fun hc => ?_) (fun hc => ?_) <;> try simp only [hcL, reduceCtorEq] at hc) | (refine pw_cond _ rfl rfl (fun hc => ?_) (fun hc => ?_) <;> (try simp only [hcL, reduceCtorEq] at hc) <;> try (exfalso; omega)) | simp (maxSteps := 1000000) (disch := omega) only [go_sem, simprocAttr, hq, hqv, hql, c] | apply And.intro | omega | decide +kernel
       refine ⟨b + 1, ?_, eL [] _ _ (by refine ⟨?_, ?_⟩ <;> (repeat' first | exact List.forall_mem_nil _ | refine List.forall_mem_cons.2 ⟨(by first | rfl | (simp (disch := omega) only [go_sem, simprocAttr, inL, e2, Int.add_assoc]; first | done | omega | (congr 1; done))), ?_⟩); done), ?_⟩
       ·omega
       ·omega
      ·rw [if_neg c, Int.add_zero] at e2
       repeat' first | refine pw_seq ?_ | refine pw_skip ?_ | refine pw_ret ?_ | refine pw_exit ?_ | refine pw_block ?_ | refine pw_region (fun _ => false) hmix ?_ | (refine wpG_split rfl rfl (fun hc => ?_) (fun hc => ?_) <;> try simp only [hcL, reduceCtorEq] at hc) | (refine pw_cond _ rfl rfl (fun hc => ?_) (fun hc => ?_) <;> (try simp only [hcL, reduceCtorEq] at hc) <;> try (exfalso; omega)) | simp (maxSteps := 1000000) (disch := omega) only [go_sem, simprocAttr, c] | apply And.intro | omega | decide +kernel
       refine ⟨b + 1, ?_, eL [] _ _ (by refine ⟨?_, ?_⟩ <;> (repeat' first | exact List.forall_mem_nil _ | refine List.forall_mem_cons.2 ⟨(by first | rfl | (simp (disch := omega) only [go_sem, simprocAttr, inL, e2]; first | done | omega | (congr 1; done))), ?_⟩); done), ?_⟩
       ·omega
       ·omega
     ·have : b = m.length := by omega
      subst this
      repeat' first | refine pw_seq ?_ | refine pw_skip ?_ | refine pw_ret ?_ | refine pw_exit ?_ | refine pw_block ?_ | refine pw_region (fun _ => false) hmix ?_ | (refine wpG_split rfl rfl (fun hc => ?_) (fun hc => ?_) <;> try simp only [hcL, reduceCtorEq] at hc) | (refine pw_cond _ rfl rfl (fun hc => ?_) (fun hc => ?_) <;> (try simp only [hcL, reduceCtorEq] at hc) <;> try (exfalso; omega)) | simp (maxSteps := 1000000) (disch := omega) only [go_sem, simprocAttr] | apply And.intro | omega | decide +kernel
      refine ⟨u + 1, ?_, eL [] _ _ (by refine ⟨?_, ?_⟩ <;> (repeat' first | exact List.forall_mem_nil _ | refine List.forall_mem_cons.2 ⟨(by first | rfl | (simp (disch := omega) only [go_sem, simprocAttr, inL, e1]; first | done | omega | (congr 1; done))), ?_⟩); done), ?_⟩
      ·omega
      ·omega
   ·have : u = m.length := by omega
    subst this
    repeat' first | refine pw_seq ?_ | refine pw_skip ?_ | refine pw_ret ?_ | refine pw_exit ?_ | refine pw_block ?_ | refine pw_region (fun _ => false) hmix ?_ | (refine rc (h3) rfl ?_ ?_; (· first | rfl | (simp (disch := omega) only [go_sem, simprocAttr]; done))) | (refine wpG_split rfl rfl (fun hc => ?_) (fun hc => ?_) <;> try simp only [hcL, reduceCtorEq] at hc) | (refine pw_cond _ rfl rfl (fun hc => ?_) (fun hc => ?_) <;> (try simp only [hcL, reduceCtorEq] at hc) <;> try (exfalso; omega)) | simp (maxSteps := 1000000) (disch := omega) only [go_sem, simprocAttr] | apply And.intro | omega | decide +kernel
    refine ⟨_, rfl, sl_some rfl, bool_some ?_, trivial⟩
    rw [Bool.eq_iff_iff]
set_option maxHeartbeats 8000000 in
theorem arrange_spec (a : Lv) (i : Nat) (o : List Nat) (hw : wide a) (hv : validF a = true) (hil : i < a.2.1.length) (ho : Part (lstN a.2.1 i).length 0 o) :
  CallsTo Tryz.prog 28 [lvD a, .int i, natsD o] (lvD (putL a i (permL (lstN a.2.1 i) o))) := by
 obtain ⟨y, hy⟩ := get_some hil
 have hyl := tot_mem (List.mem_of_getElem? hy)
 obtain ⟨t1, t2⟩ := lv_le hv
 rw [lstN_at hy] at ho ⊢
 have hol := ho.len
 have hr := Reorder_spec a i (permL y o) hw (by rw [permL_len]; omega)
 rw [reorder_put hv hy ho] at hr
 generalize putL a i (permL y o) = P at *
 obtain ⟨n', ls', ar', cs'⟩ := P
 obtain ⟨n, ls, ar, cs⟩ := a
 dsimp only at *
 refine callsTo_of Tryz.func28 rfl (by decide +kernel) (Nat.le_of_ble_eq_true rfl) ?_
 intro hat B X w0
 repeat' first | refine pw_seq ?_ | refine pw_skip ?_ | refine pw_ret ?_ | refine pw_exit ?_ | refine pw_block ?_ | refine pw_region (fun _ => false) hmix ?_ | (refine wpG_split rfl rfl (fun hc => ?_) (fun hc => ?_) <;> try simp only [hcL, reduceCtorEq] at hc) | (refine pw_cond _ rfl rfl (fun hc => ?_) (fun hc => ?_) <;> (try simp only [hcL, reduceCtorEq] at hc) <;> try (exfalso; omega)) | simp (maxSteps := 1000000) (disch := omega) only [go_sem, simprocAttr] | apply And.intro | omega | decide +kernel
 refine pw_ent _ (ent_nil 7 901 1 rfl rfl) ?_
 refine pw_loopI (κ := Nat) (fun (k : Nat) => k ≤ o.length) (fun (k : Nat) => [(1, .int i), (3, .ptr 3 0 0 0), (6, .ptr 6 0 0 0), (7, .ref 901 1 0 k k), (12, .d (natsD o)), (13, .int o.length), (14, .int k)]) (fun (k : Nat) => [(3, .cells [.int n, .d (listsD ls), .d (arcsD ar), .d (listsD cs)]), (6, .cells [.int 0, .nilS, .nilS, .nilS]), (901, .row 1 (((permL y o).take k).map D.int))]) (fun (k : Nat) => o.length - k) 0 ?_ ?_ ?_
 ·exact Nat.zero_le _
 ·exact eL [] _ _ (by refine ⟨?_, ?_⟩ <;> (repeat' first | exact List.forall_mem_nil _ | refine List.forall_mem_cons.2 ⟨(by first | rfl | (simp (disch := omega) only [go_sem, simprocAttr, inL, List.take_zero, List.map_nil]; first | done | omega | (congr 1; done))), ?_⟩); done)
 ·intro k hk
  have hlk : ((permL y o).take k).length = k := by rw [List.length_take, permL_len]; omega
  have htk : (((permL y o).take k).map D.int).take k = ((permL y o).take k).map D.int := List.take_of_length_le (by rw [List.length_map, hlk]; exact Nat.le_refl _)
  rcases Nat.lt_or_ge k o.length with hlt | hge
  ·obtain ⟨q, hq⟩ := get_some hlt
   have hqn := ho.lt q (List.mem_of_getElem? hq)
   have hyq : y[q]? = some (yG y q) := by rw [yG, List.getElem?_eq_getElem hqn]; rfl
   have e1 : (permL y o).take (k + 1) = (permL y o).take k ++ [yG y q] := take_snoc (by rw [permL, List.getElem?_map, hq]; rfl)
   generalize (permL y o).take k = R at *
   repeat' first | refine pw_seq ?_ | refine pw_skip ?_ | refine pw_ret ?_ | refine pw_exit ?_ | refine pw_block ?_ | refine pw_region (fun _ => false) hmix ?_ | (refine wpG_split rfl rfl (fun hc => ?_) (fun hc => ?_) <;> try simp only [hcL, reduceCtorEq] at hc) | (refine pw_cond _ rfl rfl (fun hc => ?_) (fun hc => ?_) <;> (try simp only [hcL, reduceCtorEq] at hc) <;> try (exfalso; omega)) | simp (maxSteps := 1000000) (disch := omega) only [go_sem, simprocAttr, hy, hq, hyq, hlk, htk, roomy] | exact one_int _ | apply And.intro | omega | decide +kernel
   refine ⟨k + 1, ?_, eL [(901, 28)] _ _ (by refine ⟨?_, ?_⟩ <;> (repeat' first | exact List.forall_mem_nil _ | refine List.forall_mem_cons.2 ⟨(by first | rfl | (simp (disch := omega) only [go_sem, simprocAttr, inL, e1, htk, List.map_append, List.map_cons, List.map_nil]; first | done | omega | (congr 1; done))), ?_⟩); done), ?_⟩
   ·omega
   ·omega
  ·have : k = o.length := by omega
   subst this
   have hfull : (permL y o).take o.length = permL y o := List.take_of_length_le (by rw [permL_len]; exact Nat.le_refl _)
   rw [hfull] at hlk htk
   rw [hfull]
   refine pw_ent _ (ent_freeze 901 1 ((permL y o).map D.int) rfl (noGone_of _ rfl) (by decide)) ?_
   repeat' first | refine pw_seq ?_ | refine pw_skip ?_ | refine pw_ret ?_ | refine pw_exit ?_ | refine pw_block ?_ | refine pw_region (fun _ => false) hmix ?_ | (refine rc (hr) rfl ?_ ?_; (· first | rfl | (simp (disch := omega) only [go_sem, simprocAttr, hlk, htk, List.drop_zero]; done))) | (refine wpG_split rfl rfl (fun hc => ?_) (fun hc => ?_) <;> try simp only [hcL, reduceCtorEq] at hc) | (refine pw_cond _ rfl rfl (fun hc => ?_) (fun hc => ?_) <;> (try simp only [hcL, reduceCtorEq] at hc) <;> try (exfalso; omega)) | simp (maxSteps := 1000000) (disch := omega) only [go_sem, simprocAttr, hlk, htk, List.drop_zero] | apply And.intro | omega | decide +kernel
   refine ⟨_, _, _, _, rfl, ?_⟩
   simp (maxSteps := 1000000) (disch := omega) only [go_sem, simprocAttr, toD]
set_option maxHeartbeats 8000000 in
theorem Exact_spec (a : Lv) (i f : Int) (hw : wide a) : CallsTo Tryz.prog 10 [lvD a, .int i, .int f] (.tup [lvD (exaF a i f).1, .int (exaF a i f).2]) := by
 have h1 := LvValid_spec a hw
 rw [exaF]
 rcases hm : matOk a i f with _ | _
 ·rw [if_pos rfl]
  rw [matOk] at hm
  rcases hv : validF a with _ | _ <;> rw [hv] at h1 hm
  ·refine callsTo_of Tryz.func10 rfl (by decide +kernel) (Nat.le_of_ble_eq_true rfl) ?_
   intro hat B X w0
   repeat' first | refine pw_seq ?_ | refine pw_skip ?_ | refine pw_ret ?_ | refine pw_exit ?_ | refine pw_block ?_ | refine pw_region (fun _ => false) hmix ?_ | (refine rc (h1) rfl ?_ ?_; (· first | rfl | (simp (disch := omega) only [go_sem, simprocAttr, List.append_eq]; done))) | (refine wpG_split rfl rfl (fun hc => ?_) (fun hc => ?_) <;> try simp only [hcL, reduceCtorEq] at hc) | (refine pw_cond _ rfl rfl (fun hc => ?_) (fun hc => ?_) <;> (try simp only [hcL, reduceCtorEq] at hc) <;> try (exfalso; omega)) | simp (maxSteps := 1000000) (disch := omega) only [go_sem, simprocAttr, List.append_eq] | apply And.intro | omega | decide +kernel
   refine ⟨_, rfl, ⟨_, _, _, _, rfl, ?_⟩, int_some rfl, trivial⟩
   simp (maxSteps := 1000000) (disch := omega) only [go_sem, simprocAttr, toD]
   rfl
  ·obtain ⟨t1, t2⟩ := lv_le hv
   have hn : ¬ (((0 ≤ i ∧ i < a.2.1.length) ∧ (0 ≤ f ∧ f < a.2.1.length)) ∧ (f = i - 1 ∨ f = i + 1)) := by simpa [and_assoc] using hm
   obtain ⟨n, ls, ar, cs⟩ := a
   dsimp only at t1 t2 hn
   refine callsTo_of Tryz.func10 rfl (by decide +kernel) (Nat.le_of_ble_eq_true rfl) ?_
   intro hat B X w0
   repeat' first | refine pw_seq ?_ | refine pw_skip ?_ | refine pw_ret ?_ | refine pw_exit ?_ | refine pw_block ?_ | refine pw_region (fun _ => false) hmix ?_ | (refine rc (h1) rfl ?_ ?_; (· first | rfl | (simp (disch := omega) only [go_sem, simprocAttr, List.append_eq]; done))) | (refine wpG_split rfl rfl (fun hc => ?_) (fun hc => ?_) <;> try simp only [hcL, reduceCtorEq] at hc) | (refine pw_cond _ rfl rfl (fun hc => ?_) (fun hc => ?_) <;> (try simp only [hcL, reduceCtorEq] at hc) <;> try (exfalso; omega)) | simp (maxSteps := 1000000) (disch := omega) only [go_sem, simprocAttr, List.append_eq] | apply And.intro | omega | decide +kernel
   all_goals
    refine ⟨_, rfl, ⟨_, _, _, _, rfl, ?_⟩, int_some rfl, trivial⟩
    simp (maxSteps := 1000000) (disch := omega) only [go_sem, simprocAttr, toD]
    rfl
 ·rw [if_neg (by decide)]
  obtain ⟨hv, hi, hf, hif⟩ := matOk_in hm
  rw [hv] at h1
  obtain ⟨t1, t2⟩ := lv_le hv
  have hp := matF_part hm
  have h3 := Matrix_spec a i f hw
  have hml := matF_len hm
  have hsq := MatrixF_sq a i f
  obtain ⟨i, rfl⟩ : ∃ n : Nat, i = n := ⟨i.toNat, by omega⟩
  rw [Int.toNat_natCast] at *
  obtain ⟨y, hy⟩ := get_some (l := a.2.1) (k := i) (by omega)
  have hyl := tot_mem (List.mem_of_getElem? hy)
  have h2 := osmall_spec y (by omega)
  have h5 := fun ho => arrange_spec a i (bestAll (MatrixF a i f)).1 hw hv (by omega) ho
  rw [lstN_at hy] at *
  by_cases h8 : 8 < y.length
  ·rw [if_pos h8]
   rw [decide_eq_false (by omega)] at h2
   obtain ⟨n, ls, ar, cs⟩ := a
   dsimp only at *
   refine callsTo_of Tryz.func10 rfl (by decide +kernel) (Nat.le_of_ble_eq_true rfl) ?_
   intro hat B X w0
   repeat' first | refine pw_seq ?_ | refine pw_skip ?_ | refine pw_ret ?_ | refine pw_exit ?_ | refine pw_block ?_ | refine pw_region (fun _ => false) hmix ?_ | (refine rc (h1) rfl ?_ ?_; (· first | rfl | (simp (disch := omega) only [go_sem, simprocAttr, List.append_eq, hy]; done))) | (refine rc (h2) rfl ?_ ?_; (· first | rfl | (simp (disch := omega) only [go_sem, simprocAttr, List.append_eq, hy]; done))) | (refine wpG_split rfl rfl (fun hc => ?_) (fun hc => ?_) <;> try simp only [hcL, reduceCtorEq] at hc) | (refine pw_cond _ rfl rfl (fun hc => ?_) (fun hc => ?_) <;> (try simp only [hcL, reduceCtorEq] at hc) <;> try (exfalso; omega)) | simp (maxSteps := 1000000) (disch := omega) only [go_sem, simprocAttr, List.append_eq, hy] | apply And.intro | omega | decide +kernel
   all_goals
    refine ⟨_, rfl, ⟨_, _, _, _, rfl, ?_⟩, int_some rfl, trivial⟩
    simp (maxSteps := 1000000) (disch := omega) only [go_sem, simprocAttr, toD]
    rfl
  ·rw [if_neg h8]
   rw [decide_eq_true (by omega)] at h2
   have h4 := Least_spec (MatrixF a i f)
   rw [if_pos (sq_ok hsq (by omega))] at h4
   have h6 := h5 hp
   clear h5
   generalize MatrixF a i f = m at *
   generalize bestAll m = BB at *
   obtain ⟨p, cost⟩ := BB
   dsimp only at *
   generalize putL a i (permL y p) = P at *
   obtain ⟨n', ls', ar', cs'⟩ := P
   obtain ⟨n, ls, ar, cs⟩ := a
   dsimp only at *
   refine callsTo_of Tryz.func10 rfl (by decide +kernel) (Nat.le_of_ble_eq_true rfl) ?_
   intro hat B X w0
   repeat' first | refine pw_seq ?_ | refine pw_skip ?_ | refine pw_ret ?_ | refine pw_exit ?_ | refine pw_block ?_ | refine pw_region (fun _ => false) hmix ?_ | (refine rc (h1) rfl ?_ ?_; (· first | rfl | (simp (disch := omega) only [go_sem, simprocAttr, List.append_eq, hy]; done))) | (refine rc (h2) rfl ?_ ?_; (· first | rfl | (simp (disch := omega) only [go_sem, simprocAttr, List.append_eq, hy]; done))) | (refine rc (h3) rfl ?_ ?_; (· first | rfl | (simp (disch := omega) only [go_sem, simprocAttr, List.append_eq, hy]; done))) | (refine rc (h4) rfl ?_ ?_; (· first | rfl | (simp (disch := omega) only [go_sem, simprocAttr, List.append_eq, hy]; done))) | (refine rc (h6) rfl ?_ ?_; (· first | rfl | (simp (disch := omega) only [go_sem, simprocAttr, List.append_eq, hy]; done))) | (refine wpG_split rfl rfl (fun hc => ?_) (fun hc => ?_) <;> try simp only [hcL, reduceCtorEq] at hc) | (refine pw_cond _ rfl rfl (fun hc => ?_) (fun hc => ?_) <;> (try simp only [hcL, reduceCtorEq] at hc) <;> try (exfalso; omega)) | simp (maxSteps := 1000000) (disch := omega) only [go_sem, simprocAttr, List.append_eq, hy] | apply And.intro | omega | decide +kernel
   all_goals
    refine ⟨_, rfl, ⟨_, _, _, _, rfl, ?_⟩, int_some rfl, trivial⟩
    simp (maxSteps := 1000000) (disch := omega) only [go_sem, simprocAttr, toD]
set_option maxHeartbeats 8000000 in
theorem Optimal_spec (a : Lv) (i : Int) (hw : wide a) (har : a.2.2.1.length ≤ 700) : CallsTo Tryz.prog 13 [lvD a, .int i] (.bool (optF a i)) := by
 have h1 := LvValid_spec a hw
 rw [optF]
 rcases hv : validF a with _ | _ <;> rw [hv] at h1
 ·refine callsTo_of Tryz.func13 rfl (by decide +kernel) (Nat.le_of_ble_eq_true rfl) ?_
  intro hat B X w0
  repeat' first | refine pw_seq ?_ | refine pw_skip ?_ | refine pw_ret ?_ | refine pw_exit ?_ | refine pw_block ?_ | refine pw_region (fun _ => false) hmix ?_ | (refine rc (h1) rfl ?_ ?_; (· first | rfl | (simp (disch := omega) only [go_sem, simprocAttr, List.append_eq]; done))) | (refine wpG_split rfl rfl (fun hc => ?_) (fun hc => ?_) <;> try simp only [hcL, reduceCtorEq] at hc) | (refine pw_cond _ rfl rfl (fun hc => ?_) (fun hc => ?_) <;> (try simp only [hcL, reduceCtorEq] at hc) <;> try (exfalso; omega)) | simp (maxSteps := 1000000) (disch := omega) only [go_sem, simprocAttr, List.append_eq] | apply And.intro | omega | decide +kernel
  exact bool_some rfl
 ·obtain ⟨t1, t2⟩ := lv_le hv
  by_cases hi : 0 ≤ i ∧ i < a.2.1.length
  ·rw [decide_eq_true hi]
   obtain ⟨i, rfl⟩ : ∃ n : Nat, i = n := ⟨i.toNat, by omega⟩
   rw [Int.toNat_natCast]
   obtain ⟨y, hy⟩ := get_some (l := a.2.1) (k := i) (by omega)
   have hyl := tot_mem (List.mem_of_getElem? hy)
   have h2 := osmall_spec y (by omega)
   have h3 := better_spec a i hw hv har (by omega)
   rw [betF] at h3
   rw [lstN_at hy] at *
   by_cases h8 : 8 < y.length
   ·rw [decide_eq_false (fun h => h h8)]
    rw [decide_eq_false (by omega)] at h2
    obtain ⟨n, ls, ar, cs⟩ := a
    dsimp only at *
    refine callsTo_of Tryz.func13 rfl (by decide +kernel) (Nat.le_of_ble_eq_true rfl) ?_
    intro hat B X w0
    repeat' first | refine pw_seq ?_ | refine pw_skip ?_ | refine pw_ret ?_ | refine pw_exit ?_ | refine pw_block ?_ | refine pw_region (fun _ => false) hmix ?_ | (refine rc (h1) rfl ?_ ?_; (· first | rfl | (simp (disch := omega) only [go_sem, simprocAttr, List.append_eq, hy]; done))) | (refine rc (h2) rfl ?_ ?_; (· first | rfl | (simp (disch := omega) only [go_sem, simprocAttr, List.append_eq, hy]; done))) | (refine wpG_split rfl rfl (fun hc => ?_) (fun hc => ?_) <;> try simp only [hcL, reduceCtorEq] at hc) | (refine pw_cond _ rfl rfl (fun hc => ?_) (fun hc => ?_) <;> (try simp only [hcL, reduceCtorEq] at hc) <;> try (exfalso; omega)) | simp (maxSteps := 1000000) (disch := omega) only [go_sem, simprocAttr, List.append_eq, hy] | apply And.intro | omega | decide +kernel
    all_goals exact bool_some rfl
   ·rw [decide_eq_true h8]
    rw [decide_eq_true (by omega)] at h2
    rw [if_neg h8] at h3
    generalize betB a i = b at *
    generalize bestAll (orM a i) = BB at *
    obtain ⟨n, ls, ar, cs⟩ := a
    dsimp only at *
    refine callsTo_of Tryz.func13 rfl (by decide +kernel) (Nat.le_of_ble_eq_true rfl) ?_
    intro hat B X w0
    repeat' first | refine pw_seq ?_ | refine pw_skip ?_ | refine pw_ret ?_ | refine pw_exit ?_ | refine pw_block ?_ | refine pw_region (fun _ => false) hmix ?_ | (refine rc (h1) rfl ?_ ?_; (· first | rfl | (simp (disch := omega) only [go_sem, simprocAttr, List.append_eq, hy]; done))) | (refine rc (h2) rfl ?_ ?_; (· first | rfl | (simp (disch := omega) only [go_sem, simprocAttr, List.append_eq, hy]; done))) | (refine rc (h3) rfl ?_ ?_; (· first | rfl | (simp (disch := omega) only [go_sem, simprocAttr, List.append_eq, hy]; done))) | (refine wpG_split rfl rfl (fun hc => ?_) (fun hc => ?_) <;> try simp only [hcL, reduceCtorEq] at hc) | (refine pw_cond _ rfl rfl (fun hc => ?_) (fun hc => ?_) <;> (try simp only [hcL, reduceCtorEq] at hc) <;> try (exfalso; omega)) | simp (maxSteps := 1000000) (disch := omega) only [go_sem, simprocAttr, List.append_eq, hy] | apply And.intro | omega | decide +kernel
    exact bool_some (by simp)
  ·rw [decide_eq_false hi]
   obtain ⟨n, ls, ar, cs⟩ := a
   dsimp only at *
   refine callsTo_of Tryz.func13 rfl (by decide +kernel) (Nat.le_of_ble_eq_true rfl) ?_
   intro hat B X w0
   repeat' first | refine pw_seq ?_ | refine pw_skip ?_ | refine pw_ret ?_ | refine pw_exit ?_ | refine pw_block ?_ | refine pw_region (fun _ => false) hmix ?_ | (refine rc (h1) rfl ?_ ?_; (· first | rfl | (simp (disch := omega) only [go_sem, simprocAttr, List.append_eq]; done))) | (refine wpG_split rfl rfl (fun hc => ?_) (fun hc => ?_) <;> try simp only [hcL, reduceCtorEq] at hc) | (refine pw_cond _ rfl rfl (fun hc => ?_) (fun hc => ?_) <;> (try simp only [hcL, reduceCtorEq] at hc) <;> try (exfalso; omega)) | simp (maxSteps := 1000000) (disch := omega) only [go_sem, simprocAttr, List.append_eq] | apply And.intro | omega | decide +kernel
   all_goals exact bool_some rfl
set_option maxHeartbeats 8000000 in
theorem Refine_spec (a : Lv) (hw : wide a) (har : a.2.2.1.length ≤ 700) : CallsTo Tryz.prog 15 [lvD a] (lvD (if validF a then refineF a else lv0)) := by
 have h1 := LvValid_spec a hw
 rcases hv : validF a with _ | _ <;> rw [hv] at h1
 ·rw [if_neg (by decide)]
  refine callsTo_of Tryz.func15 rfl (by decide +kernel) (Nat.le_of_ble_eq_true rfl) ?_
  intro hat B X w0
  repeat' first | refine pw_seq ?_ | refine pw_skip ?_ | refine pw_ret ?_ | refine pw_exit ?_ | refine pw_block ?_ | refine pw_region (fun _ => false) hmix ?_ | (refine rc (h1) rfl ?_ ?_; (· first | rfl | (simp (disch := omega) only [go_sem, simprocAttr]; done))) | (refine wpG_split rfl rfl (fun hc => ?_) (fun hc => ?_) <;> try simp only [hcL, reduceCtorEq] at hc) | (refine pw_cond _ rfl rfl (fun hc => ?_) (fun hc => ?_) <;> (try simp only [hcL, reduceCtorEq] at hc) <;> try (exfalso; omega)) | simp (maxSteps := 1000000) (disch := omega) only [go_sem, simprocAttr] | apply And.intro | omega | decide +kernel
  refine ⟨_, _, _, _, rfl, ?_⟩
  simp (maxSteps := 1000000) (disch := omega) only [go_sem, simprocAttr, toD]
  rfl
 ·rw [if_pos rfl]
  obtain ⟨t1, t2⟩ := lv_le hv
  have h2 := own_spec a hv
  have hK0 := Kin.refl hv hw
  have h3 : ∀ (b : Lv) (i : Nat), Kin a b → i < a.2.1.length → CallsTo Tryz.prog 34 [lvD b, .int i] (.tup [natsD (betF b i).1, .bool (betF b i).2]) := fun b i h hi => better_spec b i h.wd h.ok (by rw [h.arcs]; exact har) (by rw [h.len]; exact hi)
  have h4 : ∀ (b : Lv) (i : Nat), Kin a b → i < a.2.1.length → (betF b i).2 = true → CallsTo Tryz.prog 28 [lvD b, .int i, natsD (betF b i).1] (lvD (bestPut b i)) := fun b i h hi hb => by
   have hy := betF_yes hb
   have e : (betF b i).1 = (bestAll (orM b i)).1 := by rw [betF, if_neg hy.1]
   rw [e]
   exact arrange_spec b i _ h.wd h.ok (by rw [h.len]; exact hi) (orM_part b i)
  obtain ⟨M, hM⟩ : ∃ M, M = refMs a 0 := ⟨_, rfl⟩
  rw [refineF, ← hM]
  generalize hR : refN M a 0 = R
  obtain ⟨L, hL⟩ : ∃ L, L = a.2.1.length := ⟨_, rfl⟩
  rw [← hL] at h3 h4 t1
  refine callsTo_of Tryz.func15 rfl (by decide +kernel) (Nat.le_of_ble_eq_true rfl) ?_
  intro hat B X w0
  repeat' first | refine pw_seq ?_ | refine pw_skip ?_ | refine pw_ret ?_ | refine pw_exit ?_ | refine pw_block ?_ | refine pw_region (fun _ => false) hmix ?_ | (refine rc (h1) rfl ?_ ?_; (· first | rfl | (simp (disch := omega) only [go_sem, simprocAttr]; done))) | (refine rc (h2) rfl ?_ ?_; (· first | rfl | (simp (disch := omega) only [go_sem, simprocAttr]; done))) | (refine wpG_split rfl rfl (fun hc => ?_) (fun hc => ?_) <;> try simp only [hcL, reduceCtorEq] at hc) | (refine pw_cond _ rfl rfl (fun hc => ?_) (fun hc => ?_) <;> (try simp only [hcL, reduceCtorEq] at hc) <;> try (exfalso; omega)) | simp (maxSteps := 1000000) (disch := omega) only [go_sem, simprocAttr] | apply And.intro | omega | decide +kernel
  refine pw_loopI (κ := Nat × Lv × Nat) (fun (q : Nat × Lv × Nat) => match q with | (f, b, i) => Kin a b ∧ refMs b i ≤ f ∧ i ≤ L ∧ refN f b i = R) (fun (q : Nat × Lv × Nat) => match q with | (f, b, i) => [(1, .ptr 1 0 0 0), (2, .ptr 2 0 0 0), (3, .int i)]) (fun (q : Nat × Lv × Nat) => match q with | (f, b, i) => [(1, .cells [.int b.1, .d (listsD b.2.1), .d (arcsD b.2.2.1), .d (listsD b.2.2.2)]), (2, .cells [.int 0, .nilS, .nilS, .nilS])]) (fun (q : Nat × Lv × Nat) => match q with | (f, b, i) => f) (M, a, 0) ?_ ?_ ?_
  ·exact ⟨hK0, Nat.le_of_eq hM.symm, Nat.zero_le _, hR⟩
  ·exact eL [] _ _ (by refine ⟨?_, ?_⟩ <;> (repeat' first | exact List.forall_mem_nil _ | refine List.forall_mem_cons.2 ⟨(by first | rfl | (simp (disch := omega) only [go_sem, simprocAttr, inL]; first | done | omega | (congr 1; done))), ?_⟩); done)
  ·rintro ⟨f, b, i⟩ ⟨hK, hms, hi, hres⟩
   dsimp only at hK hms hi hres ⊢
   have hbl : b.2.1.length = L := by rw [hK.len, hL]
   rcases Nat.lt_or_ge i L with hlt | hge
   ·have hf : 0 < f := by
     have : refMs b i = (TotalF b).toNat * (b.2.1.length + 1) + (b.2.1.length - i) := rfl
     omega
    obtain ⟨f, rfl⟩ : ∃ g, f = g + 1 := ⟨f - 1, by omega⟩
    rw [refN, if_pos (by omega)] at hres
    have c1 := h3 b i hK hlt
    rcases hb : (betF b i).2 with _ | _
    ·rw [hb] at c1
     rw [hb, if_neg (by decide)] at hres
     have hs := ms_step (b := b) (i := i) (by omega)
     clear h3 h4
     obtain ⟨n, ls, ar, cs⟩ := b
     dsimp only at hbl hb c1 ⊢
     repeat' first | refine pw_seq ?_ | refine pw_skip ?_ | refine pw_ret ?_ | refine pw_exit ?_ | refine pw_block ?_ | refine pw_region (fun _ => false) hmix ?_ | (refine rc (c1) rfl ?_ ?_; (· first | rfl | (simp (disch := omega) only [go_sem, simprocAttr, hbl]; done))) | (refine wpG_split rfl rfl (fun hc => ?_) (fun hc => ?_) <;> try simp only [hcL, reduceCtorEq] at hc) | (refine pw_cond _ rfl rfl (fun hc => ?_) (fun hc => ?_) <;> (try simp only [hcL, reduceCtorEq] at hc) <;> try (exfalso; omega)) | simp (maxSteps := 1000000) (disch := omega) only [go_sem, simprocAttr, hbl] | apply And.intro | omega | decide +kernel
     refine ⟨(f, (n, ls, ar, cs), i + 1), ?_, eL [] _ _ (by refine ⟨?_, ?_⟩ <;> (repeat' first | exact List.forall_mem_nil _ | refine List.forall_mem_cons.2 ⟨(by first | rfl | (simp (disch := omega) only [go_sem, simprocAttr, inL, Int.natCast_add, Int.natCast_one]; first | done | omega | (congr 1; done))), ?_⟩); done), ?_⟩
     ·exact ⟨hK, by dsimp only; omega, hlt, hres⟩
     ·exact Nat.lt_succ_self _
    ·have c2 := h4 b i hK hlt hb
     rw [hb] at c1
     rw [hb, if_pos rfl] at hres
     have hs := ms_put hK (by omega) (betF_yes hb).2
     have hK2 := bet_kin hK (i := i) (by omega)
     clear h3 h4
     generalize bestPut b i = P at *
     obtain ⟨n, ls, ar, cs⟩ := b
     dsimp only at hbl hb c1 c2 ⊢
     repeat' first | refine pw_seq ?_ | refine pw_skip ?_ | refine pw_ret ?_ | refine pw_exit ?_ | refine pw_block ?_ | refine pw_region (fun _ => false) hmix ?_ | (refine rc (c1) rfl ?_ ?_; (· first | rfl | (simp (disch := omega) only [go_sem, simprocAttr, hbl]; done))) | (refine rc (c2) rfl ?_ ?_; (· first | rfl | (simp (disch := omega) only [go_sem, simprocAttr, hbl]; done))) | (refine wpG_split rfl rfl (fun hc => ?_) (fun hc => ?_) <;> try simp only [hcL, reduceCtorEq] at hc) | (refine pw_cond _ rfl rfl (fun hc => ?_) (fun hc => ?_) <;> (try simp only [hcL, reduceCtorEq] at hc) <;> try (exfalso; omega)) | simp (maxSteps := 1000000) (disch := omega) only [go_sem, simprocAttr, hbl] | apply And.intro | omega | decide +kernel
     refine ⟨(f, P, 0), ?_, eL [] _ _ (by refine ⟨?_, ?_⟩ <;> (repeat' first | exact List.forall_mem_nil _ | refine List.forall_mem_cons.2 ⟨(by first | rfl | (simp (disch := omega) only [go_sem, simprocAttr, inL]; first | done | omega | (congr 1; done))), ?_⟩); done), ?_⟩
     ·exact ⟨hK2, by dsimp only; omega, Nat.zero_le _, hres⟩
     ·exact Nat.lt_succ_self _
   ·rw [refN_end (by omega)] at hres
    subst hres
    obtain ⟨n, ls, ar, cs⟩ := b
    dsimp only at hbl ⊢
    repeat' first | refine pw_seq ?_ | refine pw_skip ?_ | refine pw_ret ?_ | refine pw_exit ?_ | refine pw_block ?_ | refine pw_region (fun _ => false) hmix ?_ | (refine wpG_split rfl rfl (fun hc => ?_) (fun hc => ?_) <;> try simp only [hcL, reduceCtorEq] at hc) | (refine pw_cond _ rfl rfl (fun hc => ?_) (fun hc => ?_) <;> (try simp only [hcL, reduceCtorEq] at hc) <;> try (exfalso; omega)) | simp (maxSteps := 1000000) (disch := omega) only [go_sem, simprocAttr, hbl] | apply And.intro | omega | decide +kernel
    refine ⟨_, _, _, _, rfl, ?_⟩
    simp (maxSteps := 1000000) (disch := omega) only [go_sem, simprocAttr, toD]
def ornF (a : Lv) (r : Int) : Lv × Int × Int :=
 if validF a = true ∧ 0 ≤ r ∧ r ≤ 100 then (refineF (bstB a r.toNat), TotalF (refineF (bstB a r.toNat)), 0) else (lv0, 0, 1)
set_option maxHeartbeats 8000000 in
theorem oRun_spec (a : Lv) (r : Int) (hw : wide a) (har : a.2.2.1.length ≤ 700) : CallsTo Tryz.prog 17 [lvD a, .int r] (.tup [lvD (ornF a r).1, .int (ornF a r).2.1, .int (ornF a r).2.2]) := by
 have h1 := LvValid_spec a hw
 rw [ornF]
 by_cases hall : validF a = true ∧ 0 ≤ r ∧ r ≤ 100
 ·rw [if_pos hall]
  obtain ⟨hv, hr0, hr1⟩ := hall
  rw [hv] at h1
  obtain ⟨t1, t2⟩ := lv_le hv
  have hb := bRun_spec a r hw har
  have hrr : rndB r = r.toNat := by rw [rndB]; omega
  rw [brnF, if_pos hv, hrr] at hb
  have hK := bstB_kin hv hw r.toNat
  have h3 := Refine_spec (bstB a r.toNat) hK.wd (by rw [hK.arcs]; exact har)
  rw [if_pos hK.ok] at h3
  have hK2 := (refine_ok hK.ok hK.wd).1
  have h4 := Total_spec (refineF (bstB a r.toNat)) hK2.wd (by rw [hK2.len, hK.len]; omega)
  dsimp only at hb ⊢
  generalize refineF (bstB a r.toNat) = Q at *
  generalize bstB a r.toNat = P at *
  generalize TotalF P = tp at *
  generalize TotalF Q = tq at *
  clear hK hK2
  obtain ⟨n1, ls1, ar1, cs1⟩ := Q
  obtain ⟨n2, ls2, ar2, cs2⟩ := P
  refine callsTo_of Tryz.func17 rfl (by decide +kernel) (Nat.le_of_ble_eq_true rfl) ?_
  intro hat B X w0
  repeat' first | refine pw_seq ?_ | refine pw_skip ?_ | refine pw_ret ?_ | refine pw_exit ?_ | refine pw_block ?_ | refine pw_region (fun _ => false) hmix ?_ | (refine rc (h1) rfl ?_ ?_; (· first | rfl | (simp (disch := omega) only [go_sem, simprocAttr, List.append_eq]; done))) | (refine rc (hb) rfl ?_ ?_; (· first | rfl | (simp (disch := omega) only [go_sem, simprocAttr, List.append_eq]; done))) | (refine rc (h3) rfl ?_ ?_; (· first | rfl | (simp (disch := omega) only [go_sem, simprocAttr, List.append_eq]; done))) | (refine rc (h4) rfl ?_ ?_; (· first | rfl | (simp (disch := omega) only [go_sem, simprocAttr, List.append_eq]; done))) | (refine wpG_split rfl rfl (fun hc => ?_) (fun hc => ?_) <;> try simp only [hcL, reduceCtorEq] at hc) | (refine pw_cond _ rfl rfl (fun hc => ?_) (fun hc => ?_) <;> (try simp only [hcL, reduceCtorEq] at hc) <;> try (exfalso; omega)) | simp (maxSteps := 1000000) (disch := omega) only [go_sem, simprocAttr, List.append_eq] | apply And.intro | omega | decide +kernel
  refine ⟨_, rfl, ⟨_, _, _, _, rfl, ?_⟩, int_some rfl, int_some rfl, trivial⟩
  simp (maxSteps := 1000000) (disch := omega) only [go_sem, simprocAttr, toD]
 ·rw [if_neg hall]
  rcases hv : validF a with _ | _ <;> rw [hv] at h1
  ·refine callsTo_of Tryz.func17 rfl (by decide +kernel) (Nat.le_of_ble_eq_true rfl) ?_
   intro hat B X w0
   repeat' first | refine pw_seq ?_ | refine pw_skip ?_ | refine pw_ret ?_ | refine pw_exit ?_ | refine pw_block ?_ | refine pw_region (fun _ => false) hmix ?_ | (refine rc (h1) rfl ?_ ?_; (· first | rfl | (simp (disch := omega) only [go_sem, simprocAttr, List.append_eq]; done))) | (refine wpG_split rfl rfl (fun hc => ?_) (fun hc => ?_) <;> try simp only [hcL, reduceCtorEq] at hc) | (refine pw_cond _ rfl rfl (fun hc => ?_) (fun hc => ?_) <;> (try simp only [hcL, reduceCtorEq] at hc) <;> try (exfalso; omega)) | simp (maxSteps := 1000000) (disch := omega) only [go_sem, simprocAttr, List.append_eq] | apply And.intro | omega | decide +kernel
   refine ⟨_, rfl, ⟨_, _, _, _, rfl, ?_⟩, int_some rfl, int_some rfl, trivial⟩
   simp (maxSteps := 1000000) (disch := omega) only [go_sem, simprocAttr, toD]
   rfl
  ·have hn : ¬ (0 ≤ r ∧ r ≤ 100) := fun h => hall ⟨hv, h⟩
   refine callsTo_of Tryz.func17 rfl (by decide +kernel) (Nat.le_of_ble_eq_true rfl) ?_
   intro hat B X w0
   repeat' first | refine pw_seq ?_ | refine pw_skip ?_ | refine pw_ret ?_ | refine pw_exit ?_ | refine pw_block ?_ | refine pw_region (fun _ => false) hmix ?_ | (refine rc (h1) rfl ?_ ?_; (· first | rfl | (simp (disch := omega) only [go_sem, simprocAttr, List.append_eq]; done))) | (refine wpG_split rfl rfl (fun hc => ?_) (fun hc => ?_) <;> try simp only [hcL, reduceCtorEq] at hc) | (refine pw_cond _ rfl rfl (fun hc => ?_) (fun hc => ?_) <;> (try simp only [hcL, reduceCtorEq] at hc) <;> try (exfalso; omega)) | simp (maxSteps := 1000000) (disch := omega) only [go_sem, simprocAttr, List.append_eq] | apply And.intro | omega | decide +kernel
   all_goals
    refine ⟨_, rfl, ⟨_, _, _, _, rfl, ?_⟩, int_some rfl, int_some rfl, trivial⟩
    simp (maxSteps := 1000000) (disch := omega) only [go_sem, simprocAttr, toD]
    rfl
end Go.Proofs.YtldbcbclhpcofaaGreat
namespace Go.Proofs.YtldbcbclhpcofaaGreat
open Go Go.PS Go.Proofs
set_option maxRecDepth 100000
attribute [local irreducible] wpRun wpG CallsTo CallsM

end Go.Proofs.YtldbcbclhpcofaaGreat
namespace Go.Proofs.YtldbcbclhpcofaaGreat
open Go Go.PS Go.Proofs
set_option maxRecDepth 100000
attribute [local irreducible] wpRun wpG CallsTo CallsM

end Go.Proofs.YtldbcbclhpcofaaGreat
namespace Go.Proofs.YtldbcbclhpcofaaGreat
open Go Go.PS Go.Proofs
open Go.Bd (sm sumC Part)
set_option maxRecDepth 100000
attribute [local irreducible] wpRun wpG CallsTo CallsM

end Go.Proofs.YtldbcbclhpcofaaGreat
namespace Go.Proofs.YtldbcbclhpcofaaGreat
open Go Go.PS Go.Proofs
set_option maxRecDepth 100000
attribute [local irreducible] wpRun wpG CallsTo CallsM

set_option maxHeartbeats 4000000 in
theorem bRun0_spec (a : Lv) (hw : wide a) (hv : validF a = true) : CallsTo Tryz.prog 37 [lvD a, .int 0] (.tup [lvD a, .int (TotalF a)]) := by
 have h1 := LvValid_spec a hw
 rw [hv] at h1
 obtain ⟨t1, t2⟩ := lv_le hv
 have h2 := copied_spec a hv
 have h3 := Total_spec a hw (by omega)
 generalize TotalF a = t at *
 obtain ⟨n, ls, ar, cs⟩ := a
 dsimp only at *
 refine callsTo_of Tryz.func37 rfl (by decide +kernel) (Nat.le_of_ble_eq_true rfl) ?_
 intro hat B X w0
 repeat' first | refine pw_seq ?_ | refine pw_skip ?_ | refine pw_ret ?_ | refine pw_exit ?_ | refine pw_block ?_ | refine pw_region (fun _ => false) hmix ?_ | (refine rc (h1) rfl ?_ ?_; (· first | rfl | (simp (disch := omega) only [go_sem, simprocAttr]; done))) | (refine rc (h2) rfl ?_ ?_; (· first | rfl | (simp (disch := omega) only [go_sem, simprocAttr]; done))) | (refine rc (h3) rfl ?_ ?_; (· first | rfl | (simp (disch := omega) only [go_sem, simprocAttr]; done))) | (refine wpG_split rfl rfl (fun hc => ?_) (fun hc => ?_) <;> try simp only [hcL, reduceCtorEq] at hc) | (refine pw_cond _ rfl rfl (fun hc => ?_) (fun hc => ?_) <;> (try simp only [hcL, reduceCtorEq] at hc) <;> try (exfalso; omega)) | simp (maxSteps := 1000000) (disch := omega) only [go_sem, simprocAttr] | apply And.intro | omega | decide +kernel
 refine pw_loopI (κ := Nat) (fun (k : Nat) => k = 0) (fun (k : Nat) => [(4, .ptr 4 0 0 0), (6, .ptr 6 0 0 0), (7, .int t), (20, .int 0), (21, .int k)]) (fun (k : Nat) => [(4, .cells [.int 0, .nilS, .nilS, .nilS]), (6, .cells [.int n, .d (listsD ls), .d (arcsD ar), .d (listsD cs)])]) (fun (k : Nat) => 0) 0 ?_ ?_ ?_
 ·rfl
 ·exact eL [] _ _ (by refine ⟨?_, ?_⟩ <;> (repeat' first | exact List.forall_mem_nil _ | refine List.forall_mem_cons.2 ⟨(by first | rfl | (simp (disch := omega) only [go_sem, simprocAttr, inL]; first | done | omega | (congr 1; done))), ?_⟩); done)
 ·rintro k rfl
  repeat' first | refine pw_seq ?_ | refine pw_skip ?_ | refine pw_ret ?_ | refine pw_exit ?_ | refine pw_block ?_ | refine pw_region (fun _ => false) hmix ?_ | (refine wpG_split rfl rfl (fun hc => ?_) (fun hc => ?_) <;> try simp only [hcL, reduceCtorEq] at hc) | (refine pw_cond _ rfl rfl (fun hc => ?_) (fun hc => ?_) <;> (try simp only [hcL, reduceCtorEq] at hc) <;> try (exfalso; omega)) | simp (maxSteps := 1000000) (disch := omega) only [go_sem, simprocAttr] | apply And.intro | omega | decide +kernel
  refine ⟨_, rfl, ⟨_, _, _, _, rfl, ?_⟩, int_some rfl, trivial⟩
  simp (maxSteps := 1000000) (disch := omega) only [go_sem, simprocAttr, toD]
set_option maxHeartbeats 4000000 in
theorem oRun0_spec (a : Lv) (hw : wide a) (hv : validF a = true) (har : a.2.2.1.length ≤ 700) : CallsTo Tryz.prog 17 [lvD a, .int 0] (.tup [lvD (refineF a), .int (TotalF (refineF a)), .int 0]) := by
 have h1 := LvValid_spec a hw
 rw [hv] at h1
 obtain ⟨t1, t2⟩ := lv_le hv
 have hb := bRun0_spec a hw hv
 have h3 := Refine_spec a hw har
 rw [if_pos hv] at h3
 have hK2 := (refine_ok hv hw).1
 have h4 := Total_spec (refineF a) hK2.wd (by rw [hK2.len]; omega)
 generalize refineF a = Q at *
 generalize TotalF a = tp at *
 generalize TotalF Q = tq at *
 clear hK2
 obtain ⟨n1, ls1, ar1, cs1⟩ := Q
 obtain ⟨n, ls, ar, cs⟩ := a
 dsimp only at *
 refine callsTo_of Tryz.func17 rfl (by decide +kernel) (Nat.le_of_ble_eq_true rfl) ?_
 intro hat B X w0
 repeat' first | refine pw_seq ?_ | refine pw_skip ?_ | refine pw_ret ?_ | refine pw_exit ?_ | refine pw_block ?_ | refine pw_region (fun _ => false) hmix ?_ | (refine rc (h1) rfl ?_ ?_; (· first | rfl | (simp (disch := omega) only [go_sem, simprocAttr, List.append_eq]; done))) | (refine rc (hb) rfl ?_ ?_; (· first | rfl | (simp (disch := omega) only [go_sem, simprocAttr, List.append_eq]; done))) | (refine rc (h3) rfl ?_ ?_; (· first | rfl | (simp (disch := omega) only [go_sem, simprocAttr, List.append_eq]; done))) | (refine rc (h4) rfl ?_ ?_; (· first | rfl | (simp (disch := omega) only [go_sem, simprocAttr, List.append_eq]; done))) | (refine wpG_split rfl rfl (fun hc => ?_) (fun hc => ?_) <;> try simp only [hcL, reduceCtorEq] at hc) | (refine pw_cond _ rfl rfl (fun hc => ?_) (fun hc => ?_) <;> (try simp only [hcL, reduceCtorEq] at hc) <;> try (exfalso; omega)) | simp (maxSteps := 1000000) (disch := omega) only [go_sem, simprocAttr, List.append_eq] | apply And.intro | omega | decide +kernel
 refine ⟨_, rfl, ⟨_, _, _, _, rfl, ?_⟩, int_some rfl, int_some rfl, trivial⟩
 simp (maxSteps := 1000000) (disch := omega) only [go_sem, simprocAttr, toD]
theorem oRunN_spec (a : Lv) (hw : wide a) (hv : validF a = true) : CallsTo Tryz.prog 17 [lvD a, .int (-1)] (.tup [lvD lv0, .int 0, .int 1]) := by
 have h1 := LvValid_spec a hw
 rw [hv] at h1
 refine callsTo_of Tryz.func17 rfl (by decide +kernel) (Nat.le_of_ble_eq_true rfl) ?_
 intro hat B X w0
 repeat' first | refine pw_seq ?_ | refine pw_skip ?_ | refine pw_ret ?_ | refine pw_exit ?_ | refine pw_block ?_ | refine pw_region (fun _ => false) hmix ?_ | (refine rc (h1) rfl ?_ ?_; (· first | rfl | (simp (disch := omega) only [go_sem, simprocAttr, List.append_eq]; done))) | (refine wpG_split rfl rfl (fun hc => ?_) (fun hc => ?_) <;> try simp only [hcL, reduceCtorEq] at hc) | (refine pw_cond _ rfl rfl (fun hc => ?_) (fun hc => ?_) <;> (try simp only [hcL, reduceCtorEq] at hc) <;> try (exfalso; omega)) | simp (maxSteps := 1000000) (disch := omega) only [go_sem, simprocAttr, List.append_eq] | apply And.intro | omega | decide +kernel
 refine ⟨_, rfl, ⟨_, _, _, _, rfl, ?_⟩, int_some rfl, int_some rfl, trivial⟩
 simp (maxSteps := 1000000) (disch := omega) only [go_sem, simprocAttr, toD]
 rfl
end Go.Proofs.YtldbcbclhpcofaaGreat
namespace Go.Proofs.YtldbcbclhpcofaaGreat
open Go Go.PS Go.Proofs
open Go.Bd (sm sumC Part)
set_option maxRecDepth 100000
attribute [local irreducible] wpRun wpG CallsTo CallsM

/-! The chapter's example. -/
def exL : Lv := (6, [[0, 1, 2], [3, 4, 5]], [(0, 5), (1, 4), (2, 3)], [[0, 5], [1, 4], [2, 3]])
def exB : Lv := (6, [[2, 1, 0], [3, 4, 5]], [(0, 5), (1, 4), (2, 3)], [[0, 5], [1, 4], [2, 3]])
theorem exL_valid : validF exL = true := by
 simp only [validF, sortLv, exL, List.map_cons, List.map_nil, ← insN_eq]
 decide +kernel
theorem exB_valid : validF exB = true := by
 simp only [validF, sortLv, exB, List.map_cons, List.map_nil, ← insN_eq]
 decide +kernel
def exM1 : List (List Int) := [[0, 1, 1], [0, 0, 1], [0, 0, 0]]
def exM2 : List (List Int) := [[0, 0, 0], [1, 0, 0], [1, 1, 0]]
theorem ex_m1 : MatrixF exL 0 1 = exM1 := by simp only [MatrixF, matOk, exL_valid]; decide +kernel
theorem ex_m2 : MatrixF exL 0 (-1) = [] := by simp only [MatrixF, matOk, exL_valid]; decide +kernel
theorem ex_m3 : MatrixF exB 0 1 = exM2 := by simp only [MatrixF, matOk, exB_valid]; decide +kernel
theorem ex_m4 : MatrixF exB 0 (-1) = [] := by simp only [MatrixF, matOk, exB_valid]; decide +kernel
theorem ex_m5 : MatrixF exB 1 0 = exM2 := by simp only [MatrixF, matOk, exB_valid]; decide +kernel
theorem ex_m6 : MatrixF exB 1 2 = [] := by simp only [MatrixF, matOk, exB_valid]; decide +kernel
theorem ex_t1 : TotalF exL = 3 := by simp only [TotalF, BetweenF, MatrixF, matOk, exL_valid]; decide +kernel
theorem ex_t2 : TotalF exB = 0 := by simp only [TotalF, BetweenF, MatrixF, matOk, exB_valid]; decide +kernel
theorem orM_of {a : Lv} {i : Nat} {y : List Int} {p q : List (List Int)} (hy : lstN a.2.1 i = y) (hp : MatrixF a i ((i : Int) - 1) = p) (hq : MatrixF a i ((i : Int) + 1) = q) :
  orM a i = sqM (fun u v => 0 + cellAt p u v + cellAt q u v) y.length := by
 have h : accC a [] y 0 i 2 = fun u v => 0 + cellAt p u v + cellAt q u v := by
  funext u v
  have e := accC_zero a i u v
  rw [hy] at e
  show accC a [] y 0 i 0 u v + cellAt (MatrixF a i ((i : Int) - 1)) u v + cellAt (MatrixF a i ((i : Int) + 1)) u v = _
  rw [e, hp, hq]
 rw [orM, stM, hy, h]
theorem ex_o1 : orM exL 0 = sqM (fun u v => 0 + cellAt [] u v + cellAt exM1 u v) 3 := orM_of (y := [0, 1, 2]) rfl ex_m2 ex_m1
theorem ex_o2 : orM exB 0 = sqM (fun u v => 0 + cellAt [] u v + cellAt exM2 u v) 3 := orM_of (y := [2, 1, 0]) rfl ex_m4 ex_m3
theorem ex_o3 : orM exB 1 = sqM (fun u v => 0 + cellAt exM2 u v + cellAt [] u v) 3 := orM_of (y := [3, 4, 5]) rfl ex_m5 ex_m6
theorem ex_b1 : betB exL 0 = true := by rw [betB, ex_o1]; decide +kernel
theorem ex_b2 : betB exB 0 = false := by rw [betB, ex_o2]; decide +kernel
theorem ex_b3 : betB exB 1 = false := by rw [betB, ex_o3]; decide +kernel
theorem ex_f1 : (betF exL 0).2 = true := by rw [betF, if_neg (by decide)]; exact ex_b1
theorem ex_f2 : (betF exB 0).2 = false := by rw [betF, if_neg (by decide)]; exact ex_b2
theorem ex_f3 : (betF exB 1).2 = false := by rw [betF, if_neg (by decide)]; exact ex_b3
theorem ex_p1 : bestPut exL 0 = exB := by rw [bestPut, ex_o1]; decide +kernel
theorem ex_r1 : refineF exL = exB := by
 have hm : refMs exL 0 = 11 := by rw [refMs, ex_t1]; rfl
 rw [refineF, hm, refN, if_pos (by decide), if_pos ex_f1, ex_p1, refN, if_pos (by decide), if_neg (by rw [ex_f2]; decide), refN, if_pos (by decide), if_neg (by rw [ex_f3]; decide), refN, if_neg (by decide)]
theorem ex_e1 : exaF exL 0 1 = (exB, 0) := by
 have hm : matOk exL 0 1 = true := by simp only [matOk, exL_valid]; decide
 rw [exaF, if_neg (by rw [hm]; decide), if_neg (by decide), ex_m1]
 decide +kernel
theorem ex_q1 : optF exL 0 = false := by
 rw [optF, exL_valid]
 show (true && _ && _ && !betB exL 0) = false
 rw [ex_b1]; simp
theorem ex_q2 : optF exB 0 = true := by
 rw [optF, exB_valid]
 show (true && decide ((0 : Int) ≤ 0 ∧ (0 : Int) < exB.2.1.length) && decide (¬ 8 < (lstN exB.2.1 0).length) && !betB exB 0) = true
 rw [ex_b2]; decide
theorem wide_ex : wide exL ∧ wide exB := by
 constructor <;>
 ·intro y hy
  simp only [exL, exB, List.mem_cons, List.not_mem_nil, or_false] at hy
  rcases hy with rfl | rfl <;> decide
theorem ex_same : sameLv exB exB = true := by decide +kernel
set_option maxHeartbeats 4000000 in
theorem oAwake_spec : CallsTo Tryz.prog 9 [] (.bool true) := by
 have h1 := Exact_spec exL 0 1 wide_ex.1
 rw [ex_e1] at h1
 have h2 := Refine_spec exL wide_ex.1 (by decide)
 rw [if_pos exL_valid, ex_r1] at h2
 have h3 := oRun0_spec exL wide_ex.1 exL_valid (by decide)
 rw [ex_r1, ex_t2] at h3
 have h4 := oRunN_spec exL wide_ex.1 exL_valid
 have h5 := rSame_spec exB exB
 rw [ex_same] at h5
 have h6 := Optimal_spec exL 0 wide_ex.1 (by decide)
 rw [ex_q1] at h6
 have h7 := Optimal_spec exB 0 wide_ex.2 (by decide)
 rw [ex_q2] at h7
 simp only [exL, exB, lv0, List.map_cons, List.map_nil] at h1 h2 h3 h4 h5 h6 h7
 refine callsTo_of Tryz.func9 rfl (by decide +kernel) (Nat.le_of_ble_eq_true rfl) ?_
 intro hat B X w0
 repeat' first | refine pw_seq ?_ | refine pw_skip ?_ | refine pw_ret ?_ | refine pw_exit ?_ | refine pw_block ?_ | refine pw_region (fun _ => false) hmix ?_ | (refine rc (h1) rfl ?_ ?_; (· first | rfl | (simp (disch := omega) only [go_sem, simprocAttr, List.append_eq, List.map_cons, List.map_nil]; done))) | (refine rc (h2) rfl ?_ ?_; (· first | rfl | (simp (disch := omega) only [go_sem, simprocAttr, List.append_eq, List.map_cons, List.map_nil]; done))) | (refine rc (h3) rfl ?_ ?_; (· first | rfl | (simp (disch := omega) only [go_sem, simprocAttr, List.append_eq, List.map_cons, List.map_nil]; done))) | (refine rc (h4) rfl ?_ ?_; (· first | rfl | (simp (disch := omega) only [go_sem, simprocAttr, List.append_eq, List.map_cons, List.map_nil]; done))) | (refine rc (h5) rfl ?_ ?_; (· first | rfl | (simp (disch := omega) only [go_sem, simprocAttr, List.append_eq, List.map_cons, List.map_nil]; done))) | (refine rc (h6) rfl ?_ ?_; (· first | rfl | (simp (disch := omega) only [go_sem, simprocAttr, List.append_eq, List.map_cons, List.map_nil]; done))) | (refine rc (h7) rfl ?_ ?_; (· first | rfl | (simp (disch := omega) only [go_sem, simprocAttr, List.append_eq, List.map_cons, List.map_nil]; done))) | (refine wpG_split rfl rfl (fun hc => ?_) (fun hc => ?_) <;> try simp only [hcL, reduceCtorEq] at hc) | (refine pw_cond _ rfl rfl (fun hc => ?_) (fun hc => ?_) <;> (try simp only [hcL, reduceCtorEq] at hc) <;> try (exfalso; omega)) | simp (maxSteps := 1000000) (disch := omega) only [go_sem, simprocAttr, List.append_eq, List.map_cons, List.map_nil] | apply And.intro | omega | decide +kernel
 exact bool_some rfl
end Go.Proofs.YtldbcbclhpcofaaGreat
namespace Go.Proofs.YtldbcbclhpcofaaGreat
open Go Go.PS Go.Proofs
open Go.Bd (sm sumC Part)
set_option maxRecDepth 100000
attribute [local irreducible] wpRun wpG CallsTo CallsM

theorem refine_kin {a b : Lv} (h : Kin a b) : Kin a (refineF b) ∧ TotalF (refineF b) ≤ TotalF b ∧ ∀ j, j < a.2.1.length → (betF (refineF b) j).2 = false :=
 refN_ok _ b 0 h (Nat.le_refl _) (Nat.zero_le _) (fun j hlj => absurd hlj (Nat.not_lt_zero j))
theorem kin_opt {a b : Lv} (h : Kin a b) {i : Nat} (hi : i < a.2.1.length) (h8 : (lstN a.2.1 i).length ≤ 8) (hb : (betF b i).2 = false) : optF b i = true := by
 have hl := h.llen i
 rw [betF, if_neg (by omega)] at hb
 have h1 := h.len
 rw [optF, h.ok, decide_eq_true (by omega), Int.toNat_natCast, decide_eq_true (by omega), show betB b i = false from hb]; rfl
theorem kin_rank {a b : Lv} (h : Kin a b) {i k : Nat} {y : List Int} {v : Int} (hy : a.2.1[i]? = some y) (hv : y[k]? = some v) : rankF b v = i := by
 have hi := (List.getElem?_eq_some_iff.1 hy).1
 have hp := h.perm i
 rw [lstN_at hy] at hp
 obtain ⟨p, hp2⟩ := List.getElem?_of_mem (hp.mem_iff.2 (List.mem_of_getElem? hv))
 have hl : Lies b.2.1 v i p := ⟨lstN b.2.1 i, h.lay hi, hp2⟩
 have := hl.lay (valid_nodup h.ok)
 rw [rankF, h.ok, if_pos rfl, this]
set_option maxHeartbeats 16000000 in
theorem lawGains (a : Lv) (r : Int) (hw : wide a) : CallsTo Tryz.prog 6 [lvD a, .int r] (.bool true) := by
 have h9 := oAwake_spec
 have h0 := rLvValid_spec a hw
 rw [← valid_same] at h0
 by_cases hall : (a.2.1.length ≤ 12 ∧ a.2.2.1.length ≤ 60 ∧ 0 ≤ r ∧ r ≤ 10) ∧ validF a = true
 ·obtain ⟨⟨c1, c2, c3, c4⟩, hv⟩ := hall
  rw [hv] at h0
  have hyw : ∀ (k : Nat) y, a.2.1[k]? = some y → y.length ≤ 512 := fun k y h => by have h1 := (lv_le hv).2; have h2 := tot_mem (List.mem_of_getElem? h); omega
  have hK0 := Kin.refl hv hw
  have hKb := bstB_kin hv hw r.toNat
  obtain ⟨hKx, htx, hox⟩ := refine_kin hK0
  obtain ⟨hKy, hty, hoy⟩ := refine_kin hKb
  have htb := bstB_le a r.toNat
  have h1 := Refine_spec a hw (by omega)
  rw [if_pos hv] at h1
  have h2 := oRun_spec a r hw (by omega)
  rw [ornF, if_pos ⟨hv, c3, by omega⟩] at h2
  dsimp only at h2
  have tt : ∀ {b : Lv}, Kin a b → CallsTo Tryz.prog 20 [lvD b] (.int (TotalF b)) := fun {b} hK => by
   have h := rTotal_spec b hK.wd (by rw [hK.len]; omega)
   rw [← total_same] at h; exact h
  have vv : ∀ {b : Lv}, Kin a b → CallsTo Tryz.prog 19 [lvD b] (.bool true) := fun {b} hK => by
   have h := rLvValid_spec b hK.wd
   rw [← valid_same, hK.ok] at h; exact h
  have t0 := tt hK0
  have tx := tt hKx
  have ty := tt hKy
  have vx := vv hKx
  have vy := vv hKy
  have oo : ∀ {b : Lv}, Kin a b → (∀ j, j < a.2.1.length → (betF b j).2 = false) → ∀ (i : Nat) y, a.2.1[i]? = some y → y.length ≤ 8 → CallsTo Tryz.prog 13 [lvD b, .int i] (.bool true) := fun {b} hK ho i y hy h8 => by
   have hi := (List.getElem?_eq_some_iff.1 hy).1
   have h := Optimal_spec b i hK.wd (by rw [hK.arcs]; omega)
   rw [kin_opt hK hi (by rw [lstN_at hy]; exact h8) (ho i hi)] at h; exact h
  have ox := oo hKx hox
  have oy := oo hKy hoy
  have rr : ∀ {b : Lv}, Kin a b → ∀ (i k : Nat) y v, a.2.1[i]? = some y → y[k]? = some v → CallsTo Tryz.prog 21 [lvD b, .int v] (.int i) := fun {b} hK i k y v hy hv => by
   have h := rRank_spec b v hK.wd
   rw [kin_rank hK hy hv] at h; exact h
  have rx := rr hKx
  have ry := rr hKy
  have gx : ∀ (i : Nat) y, a.2.1[i]? = some y → ∃ z, (refineF a).2.1[i]? = some z ∧ z.length = y.length := fun i y hy => by
   have hi := (List.getElem?_eq_some_iff.1 hy).1
   refine ⟨_, hKx.lay hi, ?_⟩
   rw [hKx.llen, lstN_at hy]
  have lx := hKx.len
  have ly := hKy.len
  have hb1 := total_nn (refineF (bstB a r.toNat))
  clear hKb hKx hKy hox hoy tt vv oo rr hK0
  generalize refineF (bstB a r.toNat) = Y at *
  generalize refineF a = X at *
  generalize TotalF (bstB a r.toNat) = tb at *
  generalize TotalF X = tX at *
  generalize TotalF Y = tY at *
  generalize TotalF a = tA at *
  obtain ⟨n1, ls1, ar1, cs1⟩ := X
  obtain ⟨n2, ls2, ar2, cs2⟩ := Y
  obtain ⟨n, ls, ar, cs⟩ := a
  dsimp only at *
  refine callsTo_of Tryz.func6 rfl (by decide +kernel) (Nat.le_of_ble_eq_true rfl) ?_
  intro hat B X w0
  repeat' first | refine pw_seq ?_ | refine pw_skip ?_ | refine pw_ret ?_ | refine pw_exit ?_ | refine pw_block ?_ | refine pw_region (fun _ => false) hmix ?_ | (refine rc (h0) rfl ?_ ?_; (· first | rfl | (simp (disch := omega) only [go_sem, simprocAttr, List.append_eq]; done))) | (refine wpG_split rfl rfl (fun hc => ?_) (fun hc => ?_) <;> try simp only [hcL, reduceCtorEq] at hc) | (refine pw_cond _ rfl rfl (fun hc => ?_) (fun hc => ?_) <;> (try simp only [hcL, reduceCtorEq] at hc) <;> try (exfalso; omega)) | simp (maxSteps := 1000000) (disch := omega) only [go_sem, simprocAttr, List.append_eq] | apply And.intro | omega | decide +kernel
  refine pw_loopI (κ := Nat) (fun (k : Nat) => k ≤ ls.length ∧ ∀ (q : Nat) y, q < k → ls[q]? = some y → y.length ≤ 8) (fun (k : Nat) => [(1, .int r), (2, .ptr 2 0 0 0), (5, .int k)]) (fun (k : Nat) => [(2, .cells [.int n, .d (listsD ls), .d (arcsD ar), .d (listsD cs)])]) (fun (k : Nat) => ls.length - k) 0 ?_ ?_ ?_
  ·exact ⟨Nat.zero_le _, fun q y hq => by omega⟩
  ·exact eL [] _ _ (by refine ⟨?_, ?_⟩ <;> (repeat' first | exact List.forall_mem_nil _ | refine List.forall_mem_cons.2 ⟨(by first | rfl | (simp (disch := omega) only [go_sem, simprocAttr, inL]; first | done | omega | (congr 1; done))), ?_⟩); done)
  ·rintro k ⟨hk, hinv⟩
   rcases Nat.lt_or_ge k ls.length with hlt | hge
   ·obtain ⟨y, hy⟩ := get_some hlt
    have hyl := hyw k y hy
    by_cases c8 : 8 < y.length
    ·repeat' first | refine pw_seq ?_ | refine pw_skip ?_ | refine pw_ret ?_ | refine pw_exit ?_ | refine pw_block ?_ | refine pw_region (fun _ => false) hmix ?_ | (refine rc (h9) rfl ?_ ?_; (· first | rfl | (simp (disch := omega) only [go_sem, simprocAttr, hy, c8]; done))) | (refine wpG_split rfl rfl (fun hc => ?_) (fun hc => ?_) <;> try simp only [hcL, reduceCtorEq] at hc) | (refine pw_cond _ rfl rfl (fun hc => ?_) (fun hc => ?_) <;> (try simp only [hcL, reduceCtorEq] at hc) <;> try (exfalso; omega)) | simp (maxSteps := 1000000) (disch := omega) only [go_sem, simprocAttr, hy, c8] | apply And.intro | omega | decide +kernel
     exact bool_some rfl
    ·repeat' first | refine pw_seq ?_ | refine pw_skip ?_ | refine pw_ret ?_ | refine pw_exit ?_ | refine pw_block ?_ | refine pw_region (fun _ => false) hmix ?_ | (refine wpG_split rfl rfl (fun hc => ?_) (fun hc => ?_) <;> try simp only [hcL, reduceCtorEq] at hc) | (refine pw_cond _ rfl rfl (fun hc => ?_) (fun hc => ?_) <;> (try simp only [hcL, reduceCtorEq] at hc) <;> try (exfalso; omega)) | simp (maxSteps := 1000000) (disch := omega) only [go_sem, simprocAttr, hy, c8] | apply And.intro | omega | decide +kernel
     refine ⟨k + 1, ?_, eL [] _ _ (by refine ⟨?_, ?_⟩ <;> (repeat' first | exact List.forall_mem_nil _ | refine List.forall_mem_cons.2 ⟨(by first | rfl | (simp (disch := omega) only [go_sem, simprocAttr, inL]; first | done | omega | (congr 1; done))), ?_⟩); done), ?_⟩
     ·refine ⟨by omega, fun q z hq hz => ?_⟩
      rcases Nat.lt_or_ge q k with h | h
      ·exact hinv q z h hz
      ·obtain rfl : q = k := by omega
       rw [hy, Option.some.injEq] at hz
       rw [← hz]; omega
     ·omega
   ·have : k = ls.length := by omega
    subst this
    have hN1 : ¬ (tA < tX) := by omega
    have hN2 : ¬ (tA < tY) := by omega
    repeat' first | refine pw_seq ?_ | refine pw_skip ?_ | refine pw_ret ?_ | refine pw_exit ?_ | refine pw_block ?_ | refine pw_region (fun _ => false) hmix ?_ | (refine rc (h1) rfl ?_ ?_; (· first | rfl | (simp (disch := omega) only [go_sem, simprocAttr, List.append_eq, lx, ly, hN1, hN2]; done))) | (refine rc (h2) rfl ?_ ?_; (· first | rfl | (simp (disch := omega) only [go_sem, simprocAttr, List.append_eq, lx, ly, hN1, hN2]; done))) | (refine rc (t0) rfl ?_ ?_; (· first | rfl | (simp (disch := omega) only [go_sem, simprocAttr, List.append_eq, lx, ly, hN1, hN2]; done))) | (refine rc (vx) rfl ?_ ?_; (· first | rfl | (simp (disch := omega) only [go_sem, simprocAttr, List.append_eq, lx, ly, hN1, hN2]; done))) | (refine rc (vy) rfl ?_ ?_; (· first | rfl | (simp (disch := omega) only [go_sem, simprocAttr, List.append_eq, lx, ly, hN1, hN2]; done))) | (refine rc (tx) rfl ?_ ?_; (· first | rfl | (simp (disch := omega) only [go_sem, simprocAttr, List.append_eq, lx, ly, hN1, hN2]; done))) | (refine rc (ty) rfl ?_ ?_; (· first | rfl | (simp (disch := omega) only [go_sem, simprocAttr, List.append_eq, lx, ly, hN1, hN2]; done))) | (refine wpG_split rfl rfl (fun hc => ?_) (fun hc => ?_) <;> try simp only [hcL, reduceCtorEq] at hc) | (refine pw_cond _ rfl rfl (fun hc => ?_) (fun hc => ?_) <;> (try simp only [hcL, reduceCtorEq] at hc) <;> try (exfalso; omega)) | simp (maxSteps := 1000000) (disch := omega) only [go_sem, simprocAttr, List.append_eq, lx, ly, hN1, hN2] | apply And.intro | omega | decide +kernel
    refine pw_loopI (κ := Nat) (fun (k : Nat) => k ≤ ls.length) (fun (k : Nat) => [(2, .ptr 2 0 0 0), (6, .ptr 6 0 0 0), (7, .ptr 7 0 0 0), (11, .int k)]) (fun (k : Nat) => [(2, .cells [.int n, .d (listsD ls), .d (arcsD ar), .d (listsD cs)]), (6, .cells [.int n1, .d (listsD ls1), .d (arcsD ar1), .d (listsD cs1)]), (7, .cells [.int n2, .d (listsD ls2), .d (arcsD ar2), .d (listsD cs2)])]) (fun (k : Nat) => ls.length - k) 0 ?_ ?_ ?_
    ·exact Nat.zero_le _
    ·exact eL [] _ _ (by refine ⟨?_, ?_⟩ <;> (repeat' first | exact List.forall_mem_nil _ | refine List.forall_mem_cons.2 ⟨(by first | rfl | (simp (disch := omega) only [go_sem, simprocAttr, inL]; first | done | omega | (congr 1; done))), ?_⟩); done)
    ·intro k hk
     rcases Nat.lt_or_ge k ls.length with hlt | hge
     ·obtain ⟨y, hy⟩ := get_some hlt
      have hyl := hinv k y hlt hy
      have o1 := ox k y hy hyl
      have o2 := oy k y hy hyl
      obtain ⟨z, hz, hzl⟩ := gx k y hy
      have r1 := rx k
      have r2 := ry k
      repeat' first | refine pw_seq ?_ | refine pw_skip ?_ | refine pw_ret ?_ | refine pw_exit ?_ | refine pw_block ?_ | refine pw_region (fun _ => false) hmix ?_ | (refine rc (o1) rfl ?_ ?_; (· first | rfl | (simp (disch := omega) only [go_sem, simprocAttr, List.append_eq, hy, hz, hzl]; done))) | (refine rc (o2) rfl ?_ ?_; (· first | rfl | (simp (disch := omega) only [go_sem, simprocAttr, List.append_eq, hy, hz, hzl]; done))) | (refine wpG_split rfl rfl (fun hc => ?_) (fun hc => ?_) <;> try simp only [hcL, reduceCtorEq] at hc) | (refine pw_cond _ rfl rfl (fun hc => ?_) (fun hc => ?_) <;> (try simp only [hcL, reduceCtorEq] at hc) <;> try (exfalso; omega)) | simp (maxSteps := 1000000) (disch := omega) only [go_sem, simprocAttr, List.append_eq, hy, hz, hzl] | apply And.intro | omega | decide +kernel
      refine pw_loopI (κ := Nat) (fun (j : Nat) => j ≤ y.length) (fun (j : Nat) => [(2, .ptr 2 0 0 0), (6, .ptr 6 0 0 0), (7, .ptr 7 0 0 0), (11, .int k), (12, .int j)]) (fun (j : Nat) => [(2, .cells [.int n, .d (listsD ls), .d (arcsD ar), .d (listsD cs)]), (6, .cells [.int n1, .d (listsD ls1), .d (arcsD ar1), .d (listsD cs1)]), (7, .cells [.int n2, .d (listsD ls2), .d (arcsD ar2), .d (listsD cs2)])]) (fun (j : Nat) => y.length - j) 0 ?_ ?_ ?_
      ·exact Nat.zero_le _
      ·exact eL [] _ _ (by refine ⟨?_, ?_⟩ <;> (repeat' first | exact List.forall_mem_nil _ | refine List.forall_mem_cons.2 ⟨(by first | rfl | (simp (disch := omega) only [go_sem, simprocAttr, inL]; first | done | omega | (congr 1; done))), ?_⟩); done)
      ·intro j hj
       rcases Nat.lt_or_ge j y.length with hlj | hgj
       ·obtain ⟨v, hv1⟩ := get_some hlj
        have s1 := r1 j y v hy hv1
        have s2 := r2 j y v hy hv1
        repeat' first | refine pw_seq ?_ | refine pw_skip ?_ | refine pw_ret ?_ | refine pw_exit ?_ | refine pw_block ?_ | refine pw_region (fun _ => false) hmix ?_ | (refine rc (s1) rfl ?_ ?_; (· first | rfl | (simp (disch := omega) only [go_sem, simprocAttr, List.append_eq, hy, hv1]; done))) | (refine rc (s2) rfl ?_ ?_; (· first | rfl | (simp (disch := omega) only [go_sem, simprocAttr, List.append_eq, hy, hv1]; done))) | (refine wpG_split rfl rfl (fun hc => ?_) (fun hc => ?_) <;> try simp only [hcL, reduceCtorEq] at hc) | (refine pw_cond _ rfl rfl (fun hc => ?_) (fun hc => ?_) <;> (try simp only [hcL, reduceCtorEq] at hc) <;> try (exfalso; omega)) | simp (maxSteps := 1000000) (disch := omega) only [go_sem, simprocAttr, List.append_eq, hy, hv1] | apply And.intro | omega | decide +kernel
        refine ⟨j + 1, ?_, eL [] _ _ (by refine ⟨?_, ?_⟩ <;> (repeat' first | exact List.forall_mem_nil _ | refine List.forall_mem_cons.2 ⟨(by first | rfl | (simp (disch := omega) only [go_sem, simprocAttr, inL]; first | done | omega | (congr 1; done))), ?_⟩); done), ?_⟩
        ·omega
        ·omega
       ·have : j = y.length := by omega
        subst this
        repeat' first | refine pw_seq ?_ | refine pw_skip ?_ | refine pw_ret ?_ | refine pw_exit ?_ | refine pw_block ?_ | refine pw_region (fun _ => false) hmix ?_ | (refine wpG_split rfl rfl (fun hc => ?_) (fun hc => ?_) <;> try simp only [hcL, reduceCtorEq] at hc) | (refine pw_cond _ rfl rfl (fun hc => ?_) (fun hc => ?_) <;> (try simp only [hcL, reduceCtorEq] at hc) <;> try (exfalso; omega)) | simp (maxSteps := 1000000) (disch := omega) only [go_sem, simprocAttr, hy] | apply And.intro | omega | decide +kernel
        refine ⟨k + 1, ?_, eL [] _ _ (by refine ⟨?_, ?_⟩ <;> (repeat' first | exact List.forall_mem_nil _ | refine List.forall_mem_cons.2 ⟨(by first | rfl | (simp (disch := omega) only [go_sem, simprocAttr, inL]; first | done | omega | (congr 1; done))), ?_⟩); done), ?_⟩
        ·omega
        ·omega
     ·have : k = ls.length := by omega
      subst this
      repeat' first | refine pw_seq ?_ | refine pw_skip ?_ | refine pw_ret ?_ | refine pw_exit ?_ | refine pw_block ?_ | refine pw_region (fun _ => false) hmix ?_ | (refine rc (h9) rfl ?_ ?_; (· first | rfl | (simp (disch := omega) only [go_sem, simprocAttr]; done))) | (refine wpG_split rfl rfl (fun hc => ?_) (fun hc => ?_) <;> try simp only [hcL, reduceCtorEq] at hc) | (refine pw_cond _ rfl rfl (fun hc => ?_) (fun hc => ?_) <;> (try simp only [hcL, reduceCtorEq] at hc) <;> try (exfalso; omega)) | simp (maxSteps := 1000000) (disch := omega) only [go_sem, simprocAttr] | apply And.intro | omega | decide +kernel
      exact bool_some rfl
 ·have hn1 := fun h1 h2 => hall ⟨h1, h2⟩
  rcases hv : validF a with _ | _ <;> rw [hv] at h0 hn1
  ·obtain ⟨n, ls, ar, cs⟩ := a
   dsimp only at *
   refine callsTo_of Tryz.func6 rfl (by decide +kernel) (Nat.le_of_ble_eq_true rfl) ?_
   intro hat B X w0
   have hl1 := at_len2 0 1 hat rfl rfl
   have hl2 := at_len2 0 2 hat rfl rfl
   rw [List.length_map] at hl1 hl2
   dsimp only at hl1 hl2
   repeat' first | refine pw_seq ?_ | refine pw_skip ?_ | refine pw_ret ?_ | refine pw_exit ?_ | refine pw_block ?_ | refine pw_region (fun _ => false) hmix ?_ | (refine rc (h0) rfl ?_ ?_; (· first | rfl | (simp (disch := omega) only [go_sem, simprocAttr, List.append_eq]; done))) | (refine rc (h9) rfl ?_ ?_; (· first | rfl | (simp (disch := omega) only [go_sem, simprocAttr, List.append_eq]; done))) | (refine wpG_split rfl rfl (fun hc => ?_) (fun hc => ?_) <;> try simp only [hcL, reduceCtorEq] at hc) | (refine pw_cond _ rfl rfl (fun hc => ?_) (fun hc => ?_) <;> (try simp only [hcL, reduceCtorEq] at hc) <;> try (exfalso; omega)) | simp (maxSteps := 1000000) (disch := omega) only [go_sem, simprocAttr, List.append_eq] | apply And.intro | omega | decide +kernel
   all_goals exact bool_some rfl
  ·have hn : ¬ (a.2.1.length ≤ 12 ∧ a.2.2.1.length ≤ 60 ∧ 0 ≤ r ∧ r ≤ 10) := fun h => hn1 h rfl
   clear hn1 hall
   obtain ⟨n, ls, ar, cs⟩ := a
   dsimp only at *
   refine callsTo_of Tryz.func6 rfl (by decide +kernel) (Nat.le_of_ble_eq_true rfl) ?_
   intro hat B X w0
   have hl1 := at_len2 0 1 hat rfl rfl
   have hl2 := at_len2 0 2 hat rfl rfl
   rw [List.length_map] at hl1 hl2
   dsimp only at hl1 hl2
   repeat' first | refine pw_seq ?_ | refine pw_skip ?_ | refine pw_ret ?_ | refine pw_exit ?_ | refine pw_block ?_ | refine pw_region (fun _ => false) hmix ?_ | (refine rc (h0) rfl ?_ ?_; (· first | rfl | (simp (disch := omega) only [go_sem, simprocAttr, List.append_eq]; done))) | (refine rc (h9) rfl ?_ ?_; (· first | rfl | (simp (disch := omega) only [go_sem, simprocAttr, List.append_eq]; done))) | (refine wpG_split rfl rfl (fun hc => ?_) (fun hc => ?_) <;> try simp only [hcL, reduceCtorEq] at hc) | (refine pw_cond _ rfl rfl (fun hc => ?_) (fun hc => ?_) <;> (try simp only [hcL, reduceCtorEq] at hc) <;> try (exfalso; omega)) | simp (maxSteps := 1000000) (disch := omega) only [go_sem, simprocAttr, List.append_eq] | apply And.intro | omega | decide +kernel
   all_goals exact bool_some rfl
end Go.Proofs.YtldbcbclhpcofaaGreat
