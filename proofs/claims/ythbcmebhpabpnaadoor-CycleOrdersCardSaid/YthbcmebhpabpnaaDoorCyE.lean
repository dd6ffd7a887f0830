/- The queue of vertices: its methods, and the heap's functions. -/
import Derived.Test.YthbcmebhpabpnaaDoorTypes
import Derived.Test.YthbcmebhpabpnaaDoorPSCy3
set_option linter.unusedSimpArgs false
set_option linter.unusedVariables false
namespace Go.Proofs.YthbcmebhpabpnaaDoor
open Go Go.PS Go.Proofs
open Go.Hp (swapL upN downN kid pushF popX popR sunk)
set_option maxRecDepth 100000
attribute [local irreducible] wpRun wpG CallsTo CallsM

theorem mPush : MethA Tryd.prog 55 "Push" 72 := fun x w => by kernel_rfl
theorem mPop : MethA Tryd.prog 55 "Pop" 71 := fun x w => by kernel_rfl
theorem mLen : MethF Tryd.prog 55 "Len" 36 56 := ⟨fun b w => by kernel_rfl, by kernel_rfl, by kernel_rfl⟩
theorem mLess : MethF Tryd.prog 55 "Less" 70 56 := ⟨fun b w => by kernel_rfl, by kernel_rfl, by kernel_rfl⟩
theorem mSwap : MethF Tryd.prog 55 "Swap" 74 56 := ⟨fun b w => by kernel_rfl, by kernel_rfl, by kernel_rfl⟩
theorem hp_get {l : List Nat} {i : Nat} (h : i < l.length) : l[i]? = some (Go.Hp.at0 l i) := by rw [Go.Hp.at0, List.getElem?_eq_getElem h]; rfl
theorem qLen (l : List Nat) (n c : Nat) (hn : l.length = n) : CallsM Tryd.prog 36 [.ref 1001 1 0 n c] [(1001, .row 1 (l.map natD))] (.int n) [(1001, .row 1 (l.map natD))] := by
 subst hn
 refine callsM_of Tryd.func36 rfl (by decide +kernel) (Nat.le_of_ble_eq_true rfl) rfl (nodup_of rfl) rfl rfl rfl ?_
 intro B X w0
 repeat' first | refine pw_step rfl ?_ | refine pw_ret ?_ | refine wR ?_ | (refine wpG_split rfl rfl (fun hc => ?_) (fun hc => ?_) <;> try simp only [hcL] at hc) | (refine pw_cond _ rfl rfl (fun hc => ?_) (fun hc => ?_) <;> (try simp only [hcL] at hc) <;> try omega) | simp (disch := omega) only [go_sem, simprocAttr] | apply And.intro | omega | decide +kernel
 exact rfl
theorem qLess (l : List Nat) (n c i j : Nat) (hn : l.length = n) (hi : i < l.length) (hj : j < l.length) : CallsM Tryd.prog 70 [.ref 1001 1 0 n c, .int i, .int j] [(1001, .row 1 (l.map natD))] (.bool (decide (Go.Hp.at0 l i < Go.Hp.at0 l j))) [(1001, .row 1 (l.map natD))] := by
 subst hn
 have h1 := hp_get hi
 have h2 := hp_get hj
 refine callsM_of Tryd.func70 rfl (by decide +kernel) (Nat.le_of_ble_eq_true rfl) rfl (nodup_of rfl) rfl rfl rfl ?_
 intro B X w0
 repeat' first | refine pw_step rfl ?_ | refine pw_ret ?_ | refine wR ?_ | (refine wpG_split rfl rfl (fun hc => ?_) (fun hc => ?_) <;> try simp only [hcL] at hc) | (refine pw_cond _ rfl rfl (fun hc => ?_) (fun hc => ?_) <;> (try simp only [hcL] at hc) <;> try omega) | simp (disch := omega) only [go_sem, simprocAttr, h1, h2, List.length_map] | apply And.intro | omega | decide +kernel
 exact bool_pv (decide_eq_decide.2 (by omega))
theorem qSwap (l : List Nat) (n c i j : Nat) (hn : l.length = n) (hi : i < l.length) (hj : j < l.length) : CallsM Tryd.prog 74 [.ref 1001 1 0 n c, .int i, .int j] [(1001, .row 1 (l.map natD))] (.tup []) [(1001, .row 1 ((swapL l i j).map natD))] := by
 subst hn
 have h1 := hp_get hi
 have h2 := hp_get hj
 have h3 : ((l.set i (Go.Hp.at0 l j)).map natD)[j]? = some (natD ((l.set i (Go.Hp.at0 l j))[j]?.getD 0)) := by
  rw [List.getElem?_map, List.getElem?_eq_getElem (by simpa using hj)]; rfl
 have h4 : (l.map natD).set i (.int (Go.Hp.at0 l j : Nat)) = (l.set i (Go.Hp.at0 l j)).map natD := by simp only [List.map_set]
 have h5 : ((l.set i (Go.Hp.at0 l j)).map natD).set j (.int (Go.Hp.at0 l i : Nat)) = (swapL l i j).map natD := by simp only [swapL, List.map_set]
 have h6 : ((l.set i (Go.Hp.at0 l j)).map natD).length = l.length := by simp
 refine callsM_of Tryd.func74 rfl (by decide +kernel) (Nat.le_of_ble_eq_true rfl) rfl (nodup_of rfl) rfl rfl rfl ?_
 intro B X w0
 repeat' first | refine pw_step rfl ?_ | refine pw_ret ?_ | refine wR ?_ | (refine wpG_split rfl rfl (fun hc => ?_) (fun hc => ?_) <;> try simp only [hcL] at hc) | (refine pw_cond _ rfl rfl (fun hc => ?_) (fun hc => ?_) <;> (try simp only [hcL] at hc) <;> try omega) | simp (disch := omega) only [go_sem, simprocAttr, h1, h2, h3, h4, h5, h6, List.length_map] | apply And.intro | omega | decide +kernel
 exact ⟨[], rfl, trivial⟩
set_option maxHeartbeats 1000000 in
theorem qPush (l : List Nat) (c : Nat) (x : Nat) (hl : l.length ≤ 1000) : CallsM Tryd.prog 72 [.ptr 1000 0 0 0, .d (.sc (.iface 3 (.int .i64 x)))] [(1000, .cells [.ref 1001 1 0 l.length c]), (1001, .row 1 (l.map natD)), (2000, .dead)] (.tup [])
  [(1000, .cells [.ref 2000 1 0 (l ++ [x]).length (l ++ [x]).length]), (1001, .gone), (2000, .row 1 ((l ++ [x]).map natD))] := by
 have hmt : (l.map natD).take l.length = l.map natD := List.take_of_length_le (by simp)
 refine callsM_of Tryd.func72 rfl (by decide +kernel) (Nat.le_of_ble_eq_true rfl) rfl (nodup_of rfl) rfl rfl rfl ?_
 intro B X w0
 refine pw_post ?_
 repeat' first | refine pw_step rfl ?_ | refine pw_ret ?_ | refine wR ?_ | (refine wpG_split rfl rfl (fun hc => ?_) (fun hc => ?_) <;> try simp only [hcL] at hc) | (refine pw_cond _ rfl rfl (fun hc => ?_) (fun hc => ?_) <;> (try simp only [hcL] at hc) <;> try omega) | simp (disch := omega) only [go_sem, simprocAttr, List.length_map, hmt, roomy] | exact nat_one _ | apply And.intro | omega | decide +kernel
 refine ⟨_, entL_iff.1 (eL [(2000, 12)] [] [(1000, .cells [.ref 2000 1 0 (l.length + 1) (l.length + 1)]), (1001, .gone), (2000, .row 1 (l.map natD ++ [.int x]))] (by refine ⟨?_, ?_⟩ <;> (repeat' first | exact fmn | refine fmc ⟨(by first | rfl | (simp (disch := omega) only [go_sem, simprocAttr, inL]; first | done | omega | (congr 1; done))), ?_⟩); done)), ?_⟩
 rw [List.length_append, List.map_append]
 exact ⟨⟨[], rfl, trivial⟩, fmc ⟨rfl, fmc ⟨rfl, fmc ⟨rfl, fmn⟩⟩⟩⟩
set_option maxHeartbeats 1000000 in
theorem qPop (l : List Nat) (c : Nat) (h0 : 0 < l.length) (hl : l.length ≤ 1000) (hlc : l.length ≤ c) : CallsM Tryd.prog 71 [.ptr 1000 0 0 0] [(1000, .cells [.ref 1001 1 0 l.length c]), (1001, .row 1 (l.map natD))] (.d (.sc (.iface 3 (.int .i64 (Go.Hp.at0 l (l.length - 1) : Nat)))))
  [(1000, .cells [.ref 1001 1 0 (l.length - 1) c]), (1001, .row 1 ((l.take (l.length - 1)).map natD))] := by
 have h1 := hp_get (l := l) (i := l.length - 1) (by omega)
 have e1 : (l.length : Int) - 1 = (l.length - 1 : Nat) := by omega
 refine callsM_of Tryd.func71 rfl (by decide +kernel) (Nat.le_of_ble_eq_true rfl) rfl (nodup_of rfl) rfl rfl rfl ?_
 intro B X w0
 refine pw_post ?_
 repeat' first | refine pw_step rfl ?_ | refine wR ?_ | (refine wpG_split rfl rfl (fun hc => ?_) (fun hc => ?_) <;> try simp only [hcL] at hc) | (refine pw_cond _ rfl rfl (fun hc => ?_) (fun hc => ?_) <;> (try simp only [hcL] at hc) <;> try omega) | simp (disch := omega) only [go_sem, simprocAttr, List.length_map, h1, e1] | apply And.intro | omega | decide +kernel
 refine pw_ent _ (ent_trunc 1001 1 (l.map natD) (l.length - 1) rfl) ?_
 refine pw_ret ?_
 refine ⟨_, entL_iff.1 (eL [] [(2, .d (.sc (.iface 3 (.int .i64 (Go.Hp.at0 l (l.length - 1) : Nat)))))] [(1000, .cells [.ref 1001 1 0 (l.length - 1) c]), (1001, .row 1 ((l.take (l.length - 1)).map natD))] (by refine ⟨?_, ?_⟩ <;> (repeat' first | exact fmn | refine fmc ⟨(by first | rfl | (simp (disch := omega) only [go_sem, simprocAttr, inL, Nat.sub_zero, List.map_take]; first | done | omega | (congr 1; done))), ?_⟩); done)), ?_⟩
 exact ⟨rfl, fmc ⟨rfl, fmc ⟨rfl, fmn⟩⟩⟩
set_option maxHeartbeats 4000000 in
theorem up_spec (l : List Nat) (n c j : Nat) (hn : l.length = n) (hj : j < n) (hl : n ≤ 1000) : CallsM Tryd.prog 47 [.ifp 55 1000, .int j] [(1000, .cells [.ref 1001 1 0 n c]), (1001, .row 1 (l.map natD))] (.tup []) [(1000, .cells [.ref 1001 1 0 n c]), (1001, .row 1 ((upN (j + 1) l j).map natD))] := by
 obtain ⟨R, hR⟩ : ∃ R, R = upN (j + 1) l j := ⟨_, rfl⟩
 rw [← hR]
 refine callsM_of Tryd.func47 rfl (by decide +kernel) (Nat.le_of_ble_eq_true rfl) rfl (nodup_of rfl) rfl rfl rfl ?_
 intro B X w0
 repeat' first | refine pw_step rfl ?_ | refine pw_ret ?_ | refine wR ?_ | (refine wpG_split rfl rfl (fun hc => ?_) (fun hc => ?_) <;> try simp only [hcL] at hc) | (refine pw_cond _ rfl rfl (fun hc => ?_) (fun hc => ?_) <;> (try simp only [hcL] at hc) <;> try omega) | simp (disch := omega) only [go_sem, simprocAttr] | apply And.intro | omega | decide +kernel
 refine pw_loopI (κ := List Nat × Nat × Nat) (fun (q : List Nat × Nat × Nat) => match q with | (m, i, f) => m.length = n ∧ i < n ∧ i < f ∧ upN f m i = R) (fun (q : List Nat × Nat × Nat) => match q with | (m, i, f) => [(0, .ifp 55 1000), (1, .int i)]) (fun (q : List Nat × Nat × Nat) => match q with | (m, i, f) => [(1000, .cells [.ref 1001 1 0 n c]), (1001, .row 1 (m.map natD))]) (fun (q : List Nat × Nat × Nat) => match q with | (m, i, f) => i) (l, j, j + 1) ?_ ?_ ?_
 ·exact ⟨hn, hj, Nat.lt_succ_self _, hR.symm⟩
 ·exact eL [] _ _ (by refine ⟨?_, ?_⟩ <;> (repeat' first | exact fmn | refine fmc ⟨(by first | rfl | (simp (disch := omega) only [go_sem, simprocAttr, inL]; first | done | omega | (congr 1; done))), ?_⟩); done)
 ·rintro ⟨m, i, f⟩ ⟨hm, hi, hf, hr⟩
  dsimp only at hm hi hf hr ⊢
  obtain ⟨g, rfl⟩ : ∃ g, f = g + 1 := ⟨f - 1, by omega⟩
  rw [upN] at hr
  obtain ⟨k, hk⟩ : ∃ k, k = (i - 1) / 2 := ⟨_, rfl⟩
  rw [← hk] at hr
  have hq : ((i : Int) - 1).tdiv 2 = (k : Int) := by
   rw [hk]
   rcases Nat.eq_zero_or_pos i with rfl | h0
   ·rfl
   ·rw [show (i : Int) - 1 = ((i - 1 : Nat) : Int) by omega]; rfl
  have hw := wrap_in (x := (k : Int)) (by omega) (by omega)
  have hk2 : k < n := by omega
  have hless := qLess m n c i k hm (by omega) (by omega)
  have hswap := qSwap m n c k i hm (by omega) (by omega)
  by_cases c1 : k = i
  ·rw [if_pos (.inl c1)] at hr
   subst hr
   have c1' : (k : Int) = i := by omega
   repeat' first | refine pw_step rfl ?_ | refine pw_ret ?_ | refine wR ?_ | (refine wpG_split rfl rfl (fun hc => ?_) (fun hc => ?_) <;> try simp only [hcL] at hc) | (refine pw_cond _ rfl rfl (fun hc => ?_) (fun hc => ?_) <;> (try simp only [hcL] at hc) <;> try omega) | simp (disch := omega) only [go_sem, simprocAttr, hq, hw, c1'] | apply And.intro | omega | decide +kernel
   exact ⟨[], rfl, trivial⟩
  ·have c1' : ¬ (k : Int) = i := by omega
   by_cases c2 : Go.Hp.at0 m i < Go.Hp.at0 m k
   ·rw [if_neg (by rintro (h | h); exact c1 h; exact h c2)] at hr
    rw [decide_eq_true c2] at hless
    repeat' first | refine pw_step rfl ?_ | refine pw_ret ?_ | refine wR ?_ | refine rcB [(1001, 1001)] (mLess) (hless) rfl rfl ?_ | refine rcB [(1001, 1001)] (mSwap) (hswap) rfl rfl ?_ | (refine wpG_split rfl rfl (fun hc => ?_) (fun hc => ?_) <;> try simp only [hcL] at hc) | (refine pw_cond _ rfl rfl (fun hc => ?_) (fun hc => ?_) <;> (try simp only [hcL] at hc) <;> try omega) | simp (disch := omega) only [go_sem, simprocAttr, hq, hw, c1'] | apply And.intro | omega | decide +kernel
    refine ⟨(swapL m k i, k, g), ?_, eL [] _ _ (by refine ⟨?_, ?_⟩ <;> (repeat' first | exact fmn | refine fmc ⟨(by first | rfl | (simp (disch := omega) only [go_sem, simprocAttr, inL]; first | done | omega | (congr 1; done))), ?_⟩); done), ?_⟩
    ·dsimp only
     exact ⟨by rw [Go.Hp.swapL_len]; exact hm, hk2, by omega, hr⟩
    ·dsimp only; omega
   ·rw [if_pos (.inr c2)] at hr
    subst hr
    rw [decide_eq_false c2] at hless
    repeat' first | refine pw_step rfl ?_ | refine pw_ret ?_ | refine wR ?_ | refine rcB [(1001, 1001)] (mLess) (hless) rfl rfl ?_ | (refine wpG_split rfl rfl (fun hc => ?_) (fun hc => ?_) <;> try simp only [hcL] at hc) | (refine pw_cond _ rfl rfl (fun hc => ?_) (fun hc => ?_) <;> (try simp only [hcL] at hc) <;> try omega) | simp (disch := omega) only [go_sem, simprocAttr, hq, hw, c1'] | apply And.intro | omega | decide +kernel
    exact ⟨[], rfl, trivial⟩
set_option maxHeartbeats 8000000 in
theorem down_spec (l : List Nat) (n c j b : Nat) (hn : l.length = n) (hb : b ≤ n) (hj : j ≤ b) (hl : n ≤ 1000) : CallsM Tryd.prog 48 [.ifp 55 1000, .int j, .int b] [(1000, .cells [.ref 1001 1 0 n c]), (1001, .row 1 (l.map natD))] .unk [(1000, .cells [.ref 1001 1 0 n c]), (1001, .row 1 ((downN n l j b).map natD))] := by
 obtain ⟨R, hR⟩ : ∃ R, R = downN n l j b := ⟨_, rfl⟩
 rw [← hR]
 refine callsM_of Tryd.func48 rfl (by decide +kernel) (Nat.le_of_ble_eq_true rfl) rfl (nodup_of rfl) rfl rfl rfl ?_
 intro B X w0
 refine pw_post ?_
 repeat' first | refine pw_step rfl ?_ | refine wR ?_ | (refine wpG_split rfl rfl (fun hc => ?_) (fun hc => ?_) <;> try simp only [hcL] at hc) | (refine pw_cond _ rfl rfl (fun hc => ?_) (fun hc => ?_) <;> (try simp only [hcL] at hc) <;> try omega) | simp (disch := omega) only [go_sem, simprocAttr] | apply And.intro | omega | decide +kernel
 refine pw_loopI (κ := List Nat × Nat × Nat) (fun (q : List Nat × Nat × Nat) => match q with | (m, i, f) => m.length = n ∧ i ≤ b ∧ b ≤ i + f ∧ downN f m i b = R) (fun (q : List Nat × Nat × Nat) => match q with | (m, i, f) => [(0, .ifp 55 1000), (1, .int j), (2, .int b), (7, .int i)]) (fun (q : List Nat × Nat × Nat) => match q with | (m, i, f) => [(1000, .cells [.ref 1001 1 0 n c]), (1001, .row 1 (m.map natD))]) (fun (q : List Nat × Nat × Nat) => match q with | (m, i, f) => b - i) (l, j, n) ?_ ?_ ?_
 ·exact ⟨hn, hj, by omega, hR.symm⟩
 ·exact eL [] _ _ (by refine ⟨?_, ?_⟩ <;> (repeat' first | exact fmn | refine fmc ⟨(by first | rfl | (simp (disch := omega) only [go_sem, simprocAttr, inL]; first | done | omega | (congr 1; done))), ?_⟩); done)
 ·rintro ⟨m, i, f⟩ ⟨hm, hi, hf, hr⟩
  dsimp only at hm hi hf hr ⊢
  obtain ⟨k1, hk1⟩ : ∃ k, k = 2 * i + 1 := ⟨_, rfl⟩
  obtain ⟨k2, hk2⟩ : ∃ k, k = 2 * i + 2 := ⟨_, rfl⟩
  have e1 : 2 * (i : Int) + 1 = k1 := by omega
  have e2 : (k1 : Int) + 1 = k2 := by omega
  by_cases c0 : b ≤ 2 * i + 1
  ·have hr' : m = R := by
    cases f with
    | zero => exact hr
    | succ g => rw [downN, if_pos c0] at hr; exact hr
   subst hr'
   repeat' first | refine pw_step rfl ?_ | refine wR ?_ | (refine wpG_split rfl rfl (fun hc => ?_) (fun hc => ?_) <;> try simp only [hcL] at hc) | (refine pw_cond _ rfl rfl (fun hc => ?_) (fun hc => ?_) <;> (try simp only [hcL] at hc) <;> try omega) | simp (disch := omega) only [go_sem, simprocAttr, e1, e2] | apply And.intro | omega | decide +kernel
   refine pw_ret ?_
   refine ⟨_, entL_iff.1 (eL [] [] [(1000, .cells [.ref 1001 1 0 n c]), (1001, .row 1 (m.map natD))] (by refine ⟨?_, ?_⟩ <;> (repeat' first | exact fmn | refine fmc ⟨(by first | rfl | (simp (disch := omega) only [go_sem, simprocAttr, inL]; first | done | omega | (congr 1; done))), ?_⟩); done)), ?_⟩
   exact ⟨rfl, fmc ⟨rfl, fmc ⟨rfl, fmn⟩⟩⟩
  ·obtain ⟨g, rfl⟩ : ∃ g, f = g + 1 := ⟨f - 1, by omega⟩
   rw [downN, if_neg c0] at hr
   have hkl := Go.Hp.kid_lt (l := m) c0
   obtain ⟨k, hk⟩ : ∃ k, k = kid m i b := ⟨_, rfl⟩
   rw [← hk] at hr hkl
   have hless2 := qLess m n c k i hm (by omega) (by omega)
   have hswap := qSwap m n c i k hm (by omega) (by omega)
   have hki : i < k := by rw [hk, kid]; split <;> omega
   by_cases c1 : k2 < b
   ·have hless1 := qLess m n c k2 k1 hm (by omega) (by omega)
    by_cases c2 : Go.Hp.at0 m k2 < Go.Hp.at0 m k1
    ·have hkk : k = k2 := by rw [hk, kid, ← hk1, ← hk2, if_pos ⟨c1, c2⟩]
     rw [decide_eq_true c2] at hless1
     by_cases c3 : Go.Hp.at0 m k < Go.Hp.at0 m i
     ·rw [if_neg (fun h => h c3)] at hr
      rw [decide_eq_true c3] at hless2
      rw [hkk] at hless2 hswap
      repeat' first | refine pw_step rfl ?_ | refine wR ?_ | refine rcB [(1001, 1001)] (mLess) (hless1) rfl rfl ?_ | refine rcB [(1001, 1001)] (mLess) (hless2) rfl rfl ?_ | refine rcB [(1001, 1001)] (mSwap) (hswap) rfl rfl ?_ | (refine wpG_split rfl rfl (fun hc => ?_) (fun hc => ?_) <;> try simp only [hcL] at hc) | (refine pw_cond _ rfl rfl (fun hc => ?_) (fun hc => ?_) <;> (try simp only [hcL] at hc) <;> try omega) | simp (disch := omega) only [go_sem, simprocAttr, e1, e2] | apply And.intro | omega | decide +kernel
      refine ⟨(swapL m i k, k, g), ?_, eL [] _ _ (by refine ⟨?_, ?_⟩ <;> (repeat' first | exact fmn | refine fmc ⟨(by first | rfl | (simp (disch := omega) only [go_sem, simprocAttr, inL, hkk]; first | done | omega | (congr 1; done))), ?_⟩); done), ?_⟩
      ·dsimp only
       exact ⟨by rw [Go.Hp.swapL_len]; exact hm, by omega, by omega, hr⟩
      ·dsimp only; omega
     ·rw [if_pos c3] at hr
      subst hr
      rw [decide_eq_false c3] at hless2
      rw [hkk] at hless2
      repeat' first | refine pw_step rfl ?_ | refine wR ?_ | refine rcB [(1001, 1001)] (mLess) (hless1) rfl rfl ?_ | refine rcB [(1001, 1001)] (mLess) (hless2) rfl rfl ?_ | (refine wpG_split rfl rfl (fun hc => ?_) (fun hc => ?_) <;> try simp only [hcL] at hc) | (refine pw_cond _ rfl rfl (fun hc => ?_) (fun hc => ?_) <;> (try simp only [hcL] at hc) <;> try omega) | simp (disch := omega) only [go_sem, simprocAttr, e1, e2] | apply And.intro | omega | decide +kernel
      refine pw_ret ?_
      refine ⟨_, entL_iff.1 (eL [] [] [(1000, .cells [.ref 1001 1 0 n c]), (1001, .row 1 (m.map natD))] (by refine ⟨?_, ?_⟩ <;> (repeat' first | exact fmn | refine fmc ⟨(by first | rfl | (simp (disch := omega) only [go_sem, simprocAttr, inL]; first | done | omega | (congr 1; done))), ?_⟩); done)), ?_⟩
      exact ⟨rfl, fmc ⟨rfl, fmc ⟨rfl, fmn⟩⟩⟩
    ·have hkk : k = k1 := by rw [hk, kid, ← hk1, ← hk2, if_neg (fun h => c2 h.2)]
     rw [decide_eq_false c2] at hless1
     by_cases c3 : Go.Hp.at0 m k < Go.Hp.at0 m i
     ·rw [if_neg (fun h => h c3)] at hr
      rw [decide_eq_true c3] at hless2
      rw [hkk] at hless2 hswap
      repeat' first | refine pw_step rfl ?_ | refine wR ?_ | refine rcB [(1001, 1001)] (mLess) (hless1) rfl rfl ?_ | refine rcB [(1001, 1001)] (mLess) (hless2) rfl rfl ?_ | refine rcB [(1001, 1001)] (mSwap) (hswap) rfl rfl ?_ | (refine wpG_split rfl rfl (fun hc => ?_) (fun hc => ?_) <;> try simp only [hcL] at hc) | (refine pw_cond _ rfl rfl (fun hc => ?_) (fun hc => ?_) <;> (try simp only [hcL] at hc) <;> try omega) | simp (disch := omega) only [go_sem, simprocAttr, e1, e2] | apply And.intro | omega | decide +kernel
      refine ⟨(swapL m i k, k, g), ?_, eL [] _ _ (by refine ⟨?_, ?_⟩ <;> (repeat' first | exact fmn | refine fmc ⟨(by first | rfl | (simp (disch := omega) only [go_sem, simprocAttr, inL, hkk]; first | done | omega | (congr 1; done))), ?_⟩); done), ?_⟩
      ·dsimp only
       exact ⟨by rw [Go.Hp.swapL_len]; exact hm, by omega, by omega, hr⟩
      ·dsimp only; omega
     ·rw [if_pos c3] at hr
      subst hr
      rw [decide_eq_false c3] at hless2
      rw [hkk] at hless2
      repeat' first | refine pw_step rfl ?_ | refine wR ?_ | refine rcB [(1001, 1001)] (mLess) (hless1) rfl rfl ?_ | refine rcB [(1001, 1001)] (mLess) (hless2) rfl rfl ?_ | (refine wpG_split rfl rfl (fun hc => ?_) (fun hc => ?_) <;> try simp only [hcL] at hc) | (refine pw_cond _ rfl rfl (fun hc => ?_) (fun hc => ?_) <;> (try simp only [hcL] at hc) <;> try omega) | simp (disch := omega) only [go_sem, simprocAttr, e1, e2] | apply And.intro | omega | decide +kernel
      refine pw_ret ?_
      refine ⟨_, entL_iff.1 (eL [] [] [(1000, .cells [.ref 1001 1 0 n c]), (1001, .row 1 (m.map natD))] (by refine ⟨?_, ?_⟩ <;> (repeat' first | exact fmn | refine fmc ⟨(by first | rfl | (simp (disch := omega) only [go_sem, simprocAttr, inL]; first | done | omega | (congr 1; done))), ?_⟩); done)), ?_⟩
      exact ⟨rfl, fmc ⟨rfl, fmc ⟨rfl, fmn⟩⟩⟩
   ·have hkk : k = k1 := by rw [hk, kid, ← hk1, ← hk2, if_neg (fun h => c1 h.1)]
    by_cases c3 : Go.Hp.at0 m k < Go.Hp.at0 m i
    ·rw [if_neg (fun h => h c3)] at hr
     rw [decide_eq_true c3] at hless2
     rw [hkk] at hless2 hswap
     repeat' first | refine pw_step rfl ?_ | refine wR ?_ | refine rcB [(1001, 1001)] (mLess) (hless2) rfl rfl ?_ | refine rcB [(1001, 1001)] (mSwap) (hswap) rfl rfl ?_ | (refine wpG_split rfl rfl (fun hc => ?_) (fun hc => ?_) <;> try simp only [hcL] at hc) | (refine pw_cond _ rfl rfl (fun hc => ?_) (fun hc => ?_) <;> (try simp only [hcL] at hc) <;> try omega) | simp (disch := omega) only [go_sem, simprocAttr, e1, e2] | apply And.intro | omega | decide +kernel
     refine ⟨(swapL m i k, k, g), ?_, eL [] _ _ (by refine ⟨?_, ?_⟩ <;> (repeat' first | exact fmn | refine fmc ⟨(by first | rfl | (simp (disch := omega) only [go_sem, simprocAttr, inL, hkk]; first | done | omega | (congr 1; done))), ?_⟩); done), ?_⟩
     ·dsimp only
      exact ⟨by rw [Go.Hp.swapL_len]; exact hm, by omega, by omega, hr⟩
     ·dsimp only; omega
    ·rw [if_pos c3] at hr
     subst hr
     rw [decide_eq_false c3] at hless2
     rw [hkk] at hless2
     repeat' first | refine pw_step rfl ?_ | refine wR ?_ | refine rcB [(1001, 1001)] (mLess) (hless2) rfl rfl ?_ | (refine wpG_split rfl rfl (fun hc => ?_) (fun hc => ?_) <;> try simp only [hcL] at hc) | (refine pw_cond _ rfl rfl (fun hc => ?_) (fun hc => ?_) <;> (try simp only [hcL] at hc) <;> try omega) | simp (disch := omega) only [go_sem, simprocAttr, e1, e2] | apply And.intro | omega | decide +kernel
     refine pw_ret ?_
     refine ⟨_, entL_iff.1 (eL [] [] [(1000, .cells [.ref 1001 1 0 n c]), (1001, .row 1 (m.map natD))] (by refine ⟨?_, ?_⟩ <;> (repeat' first | exact fmn | refine fmc ⟨(by first | rfl | (simp (disch := omega) only [go_sem, simprocAttr, inL]; first | done | omega | (congr 1; done))), ?_⟩); done)), ?_⟩
     exact ⟨rfl, fmc ⟨rfl, fmc ⟨rfl, fmn⟩⟩⟩
set_option maxHeartbeats 4000000 in
theorem Push_spec (l : List Nat) (n c x : Nat) (hn : l.length = n) (hl : n ≤ 900) : CallsM Tryd.prog 34 [.ifp 55 1000, .d (.sc (.iface 3 (.int .i64 x)))] [(1000, .cells [.ref 1001 1 0 n c]), (1001, .row 1 (l.map natD)), (2000, .dead)] (.tup [])
  [(1000, .cells [.ref 2000 1 0 (n + 1) (n + 1)]), (1001, .gone), (2000, .row 1 ((pushF l x).map natD))] := by
 subst hn
 have hp := qPush l c x (by omega)
 have hlen : (l ++ [x]).length = l.length + 1 := by simp
 rw [hlen] at hp
 have hq := qLen (l ++ [x]) (l.length + 1) (l.length + 1) hlen
 have hu := up_spec (l ++ [x]) (l.length + 1) (l.length + 1) l.length hlen (by omega) (by omega)
 refine callsM_of Tryd.func34 rfl (by decide +kernel) (Nat.le_of_ble_eq_true rfl) rfl (nodup_of rfl) rfl rfl rfl ?_
 intro B X w0
 refine pw_post ?_
 have e1 : ((l.length + 1 : Nat) : Int) - 1 = l.length := by omega
 repeat' first | refine pw_step rfl ?_ | refine wR ?_ | refine rcA [(1000, 1000), (1001, 1001), (2000, 903)] (mPush) (hp) rfl ?_ | refine rcB [(1001, 903)] (mLen) (hq) rfl rfl ?_ | refine rcM [(1000, 1000), (1001, 903)] (hu) rfl ?_ | (refine wpG_split rfl rfl (fun hc => ?_) (fun hc => ?_) <;> try simp only [hcL] at hc) | (refine pw_cond _ rfl rfl (fun hc => ?_) (fun hc => ?_) <;> (try simp only [hcL] at hc) <;> try omega) | simp (disch := omega) only [go_sem, simprocAttr, e1] | apply And.intro | omega | decide +kernel
 refine ⟨_, entL_iff.1 (eL [(2000, 903)] [] [(1000, .cells [.ref 2000 1 0 (l.length + 1) (l.length + 1)]), (1001, .gone), (2000, .row 1 ((pushF l x).map natD))] (by refine ⟨?_, ?_⟩ <;> (repeat' first | exact fmn | refine fmc ⟨(by first | rfl | (simp (disch := omega) only [go_sem, simprocAttr, inL, pushF]; first | done | omega | (congr 1; done))), ?_⟩); done)), ?_⟩
 exact ⟨⟨[], rfl, trivial⟩, fmc ⟨rfl, fmc ⟨rfl, fmc ⟨rfl, fmn⟩⟩⟩⟩
set_option maxHeartbeats 4000000 in
theorem Pop_spec (l : List Nat) (n c : Nat) (hn : l.length = n) (h0 : 0 < n) (hl : n ≤ 900) (hc : n ≤ c) : CallsM Tryd.prog 37 [.ifp 55 1000] [(1000, .cells [.ref 1001 1 0 n c]), (1001, .row 1 (l.map natD))] (.d (.sc (.iface 3 (.int .i64 (popX l : Nat)))))
  [(1000, .cells [.ref 1001 1 0 (n - 1) c]), (1001, .row 1 ((popR l).map natD))] := by
 have hq := qLen l n c hn
 have hs := qSwap l n c 0 (n - 1) hn (by omega) (by omega)
 have hd := down_spec (swapL l 0 (n - 1)) n c 0 (n - 1) (by rw [Go.Hp.swapL_len]; exact hn) (by omega) (by omega) (by omega)
 have e2 : downN n (swapL l 0 (n - 1)) 0 (n - 1) = sunk l := by rw [sunk, hn]
 rw [e2] at hd
 have hsl : (sunk l).length = n := by rw [Go.Hp.sunk_len (by omega)]; exact hn
 have hp := qPop (sunk l) c (by omega) (by omega) (by omega)
 rw [hsl] at hp
 have e3 : popR l = (sunk l).take (n - 1) := by rw [popR, hn]
 have e4 : popX l = Go.Hp.at0 (sunk l) (n - 1) := by rw [popX, hn]
 rw [e3, e4]
 have e1 : (n : Int) - 1 = (n - 1 : Nat) := by omega
 have e0 : ((0 : Nat) : Int) = 0 := rfl
 rw [e0] at hs hd
 refine callsM_of Tryd.func37 rfl (by decide +kernel) (Nat.le_of_ble_eq_true rfl) rfl (nodup_of rfl) rfl rfl rfl ?_
 intro B X w0
 repeat' first | refine pw_step rfl ?_ | refine pw_ret ?_ | refine wR ?_ | refine rcB [(1001, 1001)] (mLen) (hq) rfl rfl ?_ | refine rcB [(1001, 1001)] (mSwap) (hs) rfl rfl ?_ | refine rcM [(1000, 1000), (1001, 1001)] (hd) rfl ?_ | refine rcA [(1000, 1000), (1001, 1001)] (mPop) (hp) rfl ?_ | (refine wpG_split rfl rfl (fun hc => ?_) (fun hc => ?_) <;> try simp only [hcL] at hc) | (refine pw_cond _ rfl rfl (fun hc => ?_) (fun hc => ?_) <;> (try simp only [hcL] at hc) <;> try omega) | simp (disch := omega) only [go_sem, simprocAttr, e1] | apply And.intro | omega | decide +kernel
 exact rfl
end Go.Proofs.YthbcmebhpabpnaaDoor
namespace Go.Proofs.YthbcmebhpabpnaaDoor
open Go Go.PS Go.Proofs
open Go.Cy (NA InN noLoops)
set_option maxRecDepth 100000
attribute [local irreducible] wpRun wpG CallsTo CallsM

def hdsN (l : List NA) (v : Nat) : List Nat := (l.filter fun a => decide (a.1 = v)).map (·.2)
def hdsD (l : List NA) (v : Nat) : List D := (hdsN l v).map natD
theorem hdsD_snoc (l : List NA) (a : NA) (v : Nat) : hdsD (l ++ [a]) v = if v = a.1 then hdsD l v ++ [natD a.2] else hdsD l v := by
 simp only [hdsD, hdsN, List.filter_append, List.filter_cons, List.filter_nil]
 by_cases c : a.1 = v
 ·rw [if_pos c.symm, if_pos (by simp [c])]; simp
 ·rw [if_neg (Ne.symm c), if_neg (by simp [c])]; simp
theorem hdsD_len (l : List NA) (v : Nat) : (hdsD l v).length ≤ l.length := by
 simp only [hdsD, hdsN, List.length_map]; exact List.length_filter_le _ _
abbrev headsR (n : Nat) (l : List NA) : List D := (List.range n).map fun v => .sl (hdsD l v)
set_option maxHeartbeats 4000000 in
theorem heads_spec (n : Nat) (l : List NA) (hi : InN n l) (hn : n ≤ 64) (hll : l.length ≤ 256) : CallsTo Tryd.prog 35 [gD ((n : Int), castA l)] (.sl (headsR n l)) := by
 have hcl := castA_len l
 refine callsTo_of Tryd.func35 rfl (by decide +kernel) (Nat.le_of_ble_eq_true rfl) ?_
 intro hat B X w0
 repeat' first | refine pw_step rfl ?_ | refine pw_ret ?_ | refine wR ?_ | (refine wpG_split rfl rfl (fun hc => ?_) (fun hc => ?_) <;> try simp only [hcL] at hc) | (refine pw_cond _ rfl rfl (fun hc => ?_) (fun hc => ?_) <;> (try simp only [hcL] at hc) <;> try omega) | simp (disch := omega) only [go_sem, simprocAttr, hcl] | apply And.intro | omega | decide +kernel
 refine pw_ent _ (ent_famNew 1 8 1 n rfl (fun i hi => by simp (disch := omega) only [go_sem, simprocAttr, obOf_fid, argEnv]) (by decide) (by decide)) ?_
 refine pw_loopF (κ := Nat) (fun (k : Nat) => k ≤ l.length) (fun (k : Nat) => [(1, .ptr 1 0 0 0), (3, .ref 8 1 0 n n), (10, .d (arcsD (castA l))), (11, .int l.length), (12, .int k)]) (fun (k : Nat) => [⟨1, 8, 1, n, hdsD (l.take k)⟩]) (fun (k : Nat) => [(1, .cells [.int n, .d (arcsD (castA l))])]) (fun (k : Nat) => l.length - k) 0 ?_ ?_ ?_
 ·exact Nat.zero_le _
 ·refine eF [] [] _ _ _ (by refine ⟨?_, ?_⟩ <;> (repeat' first | exact fmn | refine fmc ⟨(by first | rfl | (simp (disch := omega) only [go_sem, simprocAttr, inL]; first | done | omega | (congr 1; done))), ?_⟩); done) ?_
  repeat' first | exact fmn | refine fmc ⟨?_, ?_⟩
  all_goals refine ⟨_, (by first | rfl | (simp (disch := omega) only [go_sem, simprocAttr, List.take_zero, hdsD, hdsN, List.filter_nil, List.map_nil]; done) | (simp (disch := omega) only [go_sem, simprocAttr, List.take_zero, hdsD, hdsN, List.filter_nil, List.map_nil]; rfl)), fun i hi => ?_⟩
  all_goals dsimp only at hi ⊢
  all_goals try (exfalso; omega)
  all_goals try (simp (disch := omega) only [go_sem, simprocAttr, List.take_zero, hdsD, hdsN, List.filter_nil, List.map_nil, fid_lit, lit_fid]; done)
 ·intro k hk
  rcases Nat.lt_or_ge k l.length with hlt | hge
  ·obtain ⟨a, ha⟩ := get_some hlt
   have hp := castA_get ha
   have hin := hi a (List.mem_of_getElem? ha)
   have hsu : ∀ v, hdsD (l.take (k + 1)) v = if v = a.1 then hdsD (l.take k) v ++ [natD a.2] else hdsD (l.take k) v := fun v => by rw [take_snoc ha]; exact hdsD_snoc _ _ _
   have h1 := hin.1
   have e1 := hdsD_len (l.take k) a.1
   rw [List.length_take] at e1
   refine pw_ent _ (ent_bor _ _ [8, 1] 8 a.1 900 1 1 n (by first | rfl | (simp (disch := omega) only [go_sem, simprocAttr]; done) | (simp (disch := omega) only [go_sem, simprocAttr]; rfl)) (by first | (simp (disch := omega) only [go_sem, simprocAttr]; done) | (simp (disch := omega) only [go_sem, simprocAttr]; rfl)) (by first | (simp (disch := omega) only [go_sem, simprocAttr]; done) | (simp (disch := omega) only [go_sem, simprocAttr]; rfl)) (fun i hi hne => by simp (disch := omega) only [go_sem, simprocAttr, hne]; (repeat' split) <;> exact .ref _ _ _ _ _ ⟨by simp (disch := omega) only [go_sem, simprocAttr, hne], by simp (disch := omega) only [go_sem, simprocAttr, hne]⟩) (by (repeat' first | refine ab_nil ?_ | exact ab_obOf (ids := [8, 1]) rfl rfl (Nat.le_of_ble_eq_true rfl) | refine ab_hole ?_ | refine ab_row ?_ | refine ab_dead ?_ | refine ab_self ?_ | refine ab_self_fam ?_ | refine ab_fam (by dsimp only; omega) (by dsimp only; omega) (by omega) (by omega) (Nat.le_of_ble_eq_true rfl) ?_); done) rfl rfl rfl) ?_
   repeat' first | refine pw_step rfl ?_ | refine pw_ret ?_ | refine wR ?_ | (refine wpG_split rfl rfl (fun hc => ?_) (fun hc => ?_) <;> try simp only [hcL] at hc) | (refine pw_cond _ rfl rfl (fun hc => ?_) (fun hc => ?_) <;> (try simp only [hcL] at hc) <;> try omega) | simp (disch := omega) only [go_sem, simprocAttr, hp, hcl, roomy, List.take_length] | exact nat_one _ | apply And.intro | omega | decide +kernel
   refine ⟨k + 1, ?_, eF [(fid 1 a.1, 27)] [] _ _ _ (by refine ⟨?_, ?_⟩ <;> (repeat' first | exact fmn | refine fmc ⟨(by first | rfl | (simp (disch := omega) only [go_sem, simprocAttr, inL]; first | done | omega | (congr 1; done))), ?_⟩); done) ?_, ?_⟩
   ·omega
   ·repeat' first | exact fmn | refine fmc ⟨?_, ?_⟩
    all_goals refine ⟨_, (by first | rfl | (simp (disch := omega) only [go_sem, simprocAttr, hsu, List.length_append, List.length_cons, List.length_nil]; done) | (simp (disch := omega) only [go_sem, simprocAttr, hsu, List.length_append, List.length_cons, List.length_nil]; rfl)), fun i hi => ?_⟩
    all_goals dsimp only at hi ⊢
    all_goals rcases Decidable.em (i = a.1) with rfl | hi0
    all_goals try (exfalso; omega)
    all_goals try (simp (disch := omega) only [go_sem, simprocAttr, hsu, List.length_append, List.length_cons, List.length_nil, fid_lit, lit_fid]; done)
    all_goals try (simp (disch := omega) only [go_sem, simprocAttr, hsu, List.length_append, List.length_cons, List.length_nil, hi0, fid_lit, lit_fid]; done)
   ·omega
  ·repeat' first | refine pw_step rfl ?_ | refine wR ?_ | (refine wpG_split rfl rfl (fun hc => ?_) (fun hc => ?_) <;> try simp only [hcL] at hc) | (refine pw_cond _ rfl rfl (fun hc => ?_) (fun hc => ?_) <;> (try simp only [hcL] at hc) <;> try omega) | simp (disch := omega) only [go_sem, simprocAttr, hcl] | apply And.intro | omega | decide +kernel
   have : k = l.length := by omega
   subst this
   refine pw_ent _ (entF_iff.1 (eF [] [] [(2, .ref 8 1 0 n n)] [⟨1, 8, 1, n, hdsD (l.take l.length)⟩] [] (by refine ⟨?_, ?_⟩ <;> (repeat' first | exact fmn | refine fmc ⟨(by first | rfl | (simp (disch := omega) only [go_sem, simprocAttr, inL]; first | done | omega | (congr 1; done))), ?_⟩); done) ?_)) ?_
   ·repeat' first | exact fmn | refine fmc ⟨?_, ?_⟩
    all_goals refine ⟨_, (by first | rfl | (simp (disch := omega) only [go_sem, simprocAttr]; done) | (simp (disch := omega) only [go_sem, simprocAttr]; rfl)), fun i hi => ?_⟩
    all_goals dsimp only at hi ⊢
    all_goals try (exfalso; omega)
    all_goals try (simp (disch := omega) only [go_sem, simprocAttr, fid_lit, lit_fid]; done)
   ·refine pw_ent _ (ent_famRow _ _ _ _ ⟨nodup_of rfl, nodup_of rfl, (by (repeat' first | exact fmn | refine fmc ⟨⟨Nat.le_of_ble_eq_true rfl, Nat.le_of_ble_eq_true rfl, by dsimp only; omega⟩, ?_⟩); done)⟩ rfl [8] rfl rfl rfl rfl) ?_
    repeat' first | refine pw_step rfl ?_ | refine pw_ret ?_ | refine wR ?_ | (refine wpG_split rfl rfl (fun hc => ?_) (fun hc => ?_) <;> try simp only [hcL] at hc) | (refine pw_cond _ rfl rfl (fun hc => ?_) (fun hc => ?_) <;> (try simp only [hcL] at hc) <;> try omega) | simp (disch := omega) only [go_sem, simprocAttr] | apply And.intro | omega | decide +kernel
    exact ret_ref (o := 8) rfl rfl (by simp) (by rw [List.take_of_length_le (by simp), List.take_length])
theorem plain_take (l : List NA) {k : Nat} {a : NA} (h : l[k]? = some a) : castA (noLoops (l.take (k + 1))) = if a.1 = a.2 then castA (noLoops (l.take k)) else castA (noLoops (l.take k)) ++ [((a.1 : Int), (a.2 : Int))] := by
 rw [take_snoc h, noLoops, List.filter_append]
 by_cases c : a.1 = a.2
 ·rw [if_pos c]; simp [c, noLoops]
 ·rw [if_neg c]; simp [c, noLoops, castA]
theorem arc_cells' (l : List Arc) : ∀ d, d ∈ l.map arcD → d.cells.length = 2 := cells_map arcD 2 (fun _ => rfl) l
set_option maxHeartbeats 4000000 in
theorem plain_spec (n : Nat) (l : List NA) (hll : l.length ≤ 256) : CallsTo Tryd.prog 26 [gD ((n : Int), castA l)] (gD ((n : Int), castA (noLoops l))) := by
 have hcl := castA_len l
 refine callsTo_of Tryd.func26 rfl (by decide +kernel) (Nat.le_of_ble_eq_true rfl) ?_
 intro hat B X w0
 repeat' first | refine pw_step rfl ?_ | refine pw_ret ?_ | refine wR ?_ | (refine wpG_split rfl rfl (fun hc => ?_) (fun hc => ?_) <;> try simp only [hcL] at hc) | (refine pw_cond _ rfl rfl (fun hc => ?_) (fun hc => ?_) <;> (try simp only [hcL] at hc) <;> try omega) | simp (disch := omega) only [go_sem, simprocAttr, hcl] | apply And.intro | omega | decide +kernel
 refine pw_ent _ (ent_nilC 3 1 900 2 rfl rfl rfl) ?_
 refine pw_loopI (κ := Nat) (fun (k : Nat) => k ≤ l.length) (fun (k : Nat) => [(1, .ptr 1 0 0 0), (2, .ptr 2 0 0 0), (3, .ptr 3 0 0 0), (10, .d (arcsD (castA l))), (11, .int l.length), (12, .int k)]) (fun (k : Nat) => [(1, .cells [.int n, .d (arcsD (castA l))]), (2, .cells [.int 0, .nilS]), (3, .cells [.int n, .ref 900 2 0 (castA (noLoops (l.take k))).length (castA (noLoops (l.take k))).length]), (900, .row 2 ((castA (noLoops (l.take k))).map arcD))]) (fun (k : Nat) => l.length - k) 0 ?_ ?_ ?_
 ·exact Nat.zero_le _
 ·exact eL [] _ _ (by refine ⟨?_, ?_⟩ <;> (repeat' first | exact fmn | refine fmc ⟨(by first | rfl | (simp (disch := omega) only [go_sem, simprocAttr, inL]; first | done | omega | (congr 1; done))), ?_⟩); done)
 ·intro k hk
  rcases Nat.lt_or_ge k l.length with hlt | hge
  ·obtain ⟨a, ha⟩ := get_some hlt
   have hp := castA_get ha
   have hs := plain_take l ha
   have hle : (castA (noLoops (l.take k))).length ≤ 256 := by
    rw [castA_len]
    exact Nat.le_trans (List.length_filter_le _ _) (by simp; omega)
   by_cases c : a.1 = a.2
   ·rw [if_pos c] at hs
    have c' : (a.1 : Int) = a.2 := by omega
    repeat' first | refine pw_step rfl ?_ | refine pw_ret ?_ | refine wR ?_ | (refine wpG_split rfl rfl (fun hc => ?_) (fun hc => ?_) <;> try simp only [hcL] at hc) | (refine pw_cond _ rfl rfl (fun hc => ?_) (fun hc => ?_) <;> (try simp only [hcL] at hc) <;> try omega) | simp (disch := omega) only [go_sem, simprocAttr, hp, hcl, c'] | apply And.intro | omega | decide +kernel
    refine ⟨k + 1, ?_, eL [] _ _ (by refine ⟨?_, ?_⟩ <;> (repeat' first | exact fmn | refine fmc ⟨(by first | rfl | (simp (disch := omega) only [go_sem, simprocAttr, inL, hs]; first | done | omega | (congr 1; done))), ?_⟩); done), ?_⟩
    ·omega
    ·omega
   ·rw [if_neg c] at hs
    have c' : ¬ (a.1 : Int) = a.2 := by omega
    repeat' first | refine pw_step rfl ?_ | refine pw_ret ?_ | refine wR ?_ | (refine wpG_split rfl rfl (fun hc => ?_) (fun hc => ?_) <;> try simp only [hcL] at hc) | (refine pw_cond _ rfl rfl (fun hc => ?_) (fun hc => ?_) <;> (try simp only [hcL] at hc) <;> try omega) | simp (disch := omega) only [go_sem, simprocAttr, hp, hcl, c', roomy, take_map_len] | apply And.intro | omega | decide +kernel
    refine ⟨k + 1, ?_, eL [(900, 25)] _ _ (by refine ⟨?_, ?_⟩ <;> (repeat' first | exact fmn | refine fmc ⟨(by first | rfl | (simp (disch := omega) only [go_sem, simprocAttr, inL, hs, List.length_append, List.length_singleton, List.map_append, List.map_cons, List.map_nil]; first | done | omega | (congr 1; done))), ?_⟩); done), ?_⟩
    ·omega
    ·omega
  ·repeat' first | refine pw_step rfl ?_ | refine pw_ret ?_ | refine wR ?_ | (refine wpG_split rfl rfl (fun hc => ?_) (fun hc => ?_) <;> try simp only [hcL] at hc) | (refine pw_cond _ rfl rfl (fun hc => ?_) (fun hc => ?_) <;> (try simp only [hcL] at hc) <;> try omega) | simp (disch := omega) only [go_sem, simprocAttr, hcl] | apply And.intro | omega | decide +kernel
   have : k = l.length := by omega
   subst this
   refine ⟨_, _, _, _, rfl, ?_⟩
   simp (disch := omega) only [go_sem, simprocAttr]
   simp [toD, gD, arcsD, List.take_length, take_map_len]
end Go.Proofs.YthbcmebhpabpnaaDoor
namespace Go.Proofs.YthbcmebhpabpnaaDoor
open Go Go.PS Go.Proofs
open Go.Cy (NA InN noLoops Acy inC hds Kahn KahnI)
open Go.Hp (pushF popX popR)
set_option maxRecDepth 100000
attribute [local irreducible] wpRun wpG CallsTo CallsM

noncomputable def acyB (l : List NA) : Bool := @decide (Acy l) (Classical.propDecidable _)
theorem acyB_iff {l : List NA} : acyB l = true ↔ Acy l := by rw [acyB]; exact @decide_eq_true_iff _ (Classical.propDecidable _)
def rowN (n : Nat) (f : Nat → Nat) : List D := (List.range n).map fun w => natD (f w)
theorem rowN_len (n : Nat) (f : Nat → Nat) : (rowN n f).length = n := by simp [rowN]
theorem rowN_get {n : Nat} (f : Nat → Nat) {i : Nat} (h : i < n) : (rowN n f)[i]? = some (natD (f i)) := by
 rw [rowN, List.getElem?_map, List.getElem?_range h]; rfl
theorem rowN_set {n : Nat} {f f' : Nat → Nat} {i x : Nat} (h : ∀ w, w < n → f' w = if w = i then x else f w) : (rowN n f).set i (natD x) = rowN n f' := by
 refine List.ext_getElem? fun k => ?_
 rw [List.getElem?_set, rowN_len]
 rcases Nat.lt_or_ge k n with hk | hk
 ·rw [rowN_get f' hk, h k hk]
  by_cases c : i = k
  ·subst c; simp [hk]
  ·rw [if_neg c, if_neg (Ne.symm c), rowN_get f hk]
 ·rw [List.getElem?_eq_none (by rw [rowN_len]; exact hk : (rowN n f').length ≤ k), List.getElem?_eq_none (by rw [rowN_len]; exact hk : (rowN n f).length ≤ k)]
  split
  ·rw [if_neg (by omega)]
  ·rfl
theorem rowN_rep (n : Nat) : List.replicate n (D.int 0) = rowN n fun w => inC [] [] w := by
 refine List.ext_getElem? fun k => ?_
 rw [List.getElem?_replicate]
 rcases Nat.lt_or_ge k n with hk | hk
 ·rw [rowN_get _ hk, if_pos hk]; rfl
 ·rw [List.getElem?_eq_none (by rw [rowN_len]; exact hk : (rowN n _).length ≤ k), if_neg (by omega)]
theorem inC_snoc (l : List NA) (a : NA) (w : Nat) : inC (l ++ [a]) [] w = inC l [] w + if w = a.2 then 1 else 0 := by
 simp only [inC, List.filter_append, List.length_append, List.filter_cons, List.filter_nil]
 by_cases c : a.2 = w
 ·rw [if_pos (by simp [c]), if_pos c.symm]; rfl
 ·rw [if_neg (by simp [c]), if_neg (Ne.symm c)]; rfl
theorem inC_le (l : List NA) (o : List Nat) (w : Nat) : inC l o w ≤ l.length := List.length_filter_le _ _
theorem hds_eq (l : List NA) (v : Nat) : hdsD l v = (hds l v).map natD := rfl
set_option maxHeartbeats 16000000 in
theorem Order_spec (n : Nat) (l : List NA) (h : gOk ((n : Int), castA l) = true) (hi : InN n l) (hn : n ≤ 64) (hll : l.length ≤ 256) (hnl : ∀ a, a ∈ l → a.1 ≠ a.2) : CallsM Tryd.prog 25 [.d (gD ((n : Int), castA l))] [] (.tup [.unk, .bool (acyB l)]) [] := by
 have hv : CallsTo Tryd.prog 23 [gD ((n : Int), castA l)] (.bool true) := h ▸ Valid_spec _
 have hhd := heads_spec n l hi hn hll
 have hcl := castA_len l
 refine callsM_of Tryd.func25 rfl (by decide +kernel) (Nat.le_of_ble_eq_true rfl) rfl (nodup_of rfl) rfl rfl rfl ?_
 intro B X w0
 refine pw_post ?_
 repeat' first | refine pw_step rfl ?_ | refine wR ?_ | (refine rc (hv) rfl ?_ ?_; (· first | rfl | simp (disch := omega) only [go_sem, simprocAttr, hcl])) | (refine wpG_split rfl rfl (fun hc => ?_) (fun hc => ?_) <;> try simp only [hcL] at hc) | (refine pw_cond _ rfl rfl (fun hc => ?_) (fun hc => ?_) <;> (try simp only [hcL] at hc) <;> try omega) | simp (disch := omega) only [go_sem, simprocAttr, hcl] | apply And.intro | omega | decide +kernel
 refine pw_loopI (κ := Nat) (fun (k : Nat) => k ≤ l.length) (fun (k : Nat) => [(1, .ptr 1 0 0 0), (4, .ref 20 1 0 n n), (22, .d (arcsD (castA l))), (23, .int l.length), (24, .int k)]) (fun (k : Nat) => [(1, .cells [.int n, .d (arcsD (castA l))]), (20, .row 1 (rowN n (fun w => inC (l.take k) [] w)))]) (fun (k : Nat) => l.length - k) 0 ?_ ?_ ?_
 ·exact Nat.zero_le _
 ·exact eL [] _ _ (by refine ⟨?_, ?_⟩ <;> (repeat' first | exact fmn | refine fmc ⟨(by first | rfl | (simp (disch := omega) only [go_sem, simprocAttr, inL, List.take_zero, rowN_rep]; first | done | omega | (congr 1; done))), ?_⟩); done)
 ·intro k hk
  rcases Nat.lt_or_ge k l.length with hlt | hge
  ·obtain ⟨a, ha⟩ := get_some hlt
   have hp := castA_get ha
   have hin := hi a (List.mem_of_getElem? ha)
   have hg := rowN_get (fun w => inC (l.take k) [] w) hin.2
   have hle := inC_le (l.take k) [] a.2
   rw [List.length_take] at hle
   have hs := rowN_set (n := n) (f := fun w => inC (l.take k) [] w) (f' := fun w => inC (l.take (k + 1)) [] w) (i := a.2) (x := inC (l.take k) [] a.2 + 1) (fun w hw => by
    rw [take_snoc ha, inC_snoc]
    by_cases c : w = a.2
    ·rw [if_pos c, if_pos c, c]
    ·rw [if_neg c, if_neg c]; rfl)
   have e1 : ((inC (l.take k) [] a.2 : Nat) : Int) + 1 = (inC (l.take k) [] a.2 + 1 : Nat) := by omega
   repeat' first | refine pw_step rfl ?_ | refine wR ?_ | (refine wpG_split rfl rfl (fun hc => ?_) (fun hc => ?_) <;> try simp only [hcL] at hc) | (refine pw_cond _ rfl rfl (fun hc => ?_) (fun hc => ?_) <;> (try simp only [hcL] at hc) <;> try omega) | simp (disch := omega) only [go_sem, simprocAttr, hp, hcl, hg, rowN_len, e1, hs] | apply And.intro | omega | decide +kernel
   refine ⟨k + 1, ?_, eL [] _ _ (by refine ⟨?_, ?_⟩ <;> (repeat' first | exact fmn | refine fmc ⟨(by first | rfl | (simp (disch := omega) only [go_sem, simprocAttr, inL]; first | done | omega | (congr 1; done))), ?_⟩); done), ?_⟩
   ·omega
   ·omega
  ·have hk : k = l.length := by omega
   subst hk
   rw [List.take_length]
   repeat' first | refine pw_step rfl ?_ | refine wR ?_ | (refine wpG_split rfl rfl (fun hc => ?_) (fun hc => ?_) <;> try simp only [hcL] at hc) | (refine pw_cond _ rfl rfl (fun hc => ?_) (fun hc => ?_) <;> (try simp only [hcL] at hc) <;> try omega) | simp (disch := omega) only [go_sem, simprocAttr, rowN_len] | apply And.intro | omega | decide +kernel
   refine eR [] [(1, .ptr 1 0 0 0), (4, .ref 20 1 0 n n), (7, .ptr 37 0 0 0), (38, .ref 20 1 0 n n), (39, .int n), (40, .int (0 : Nat))] [(1, .cells [.int n, .d (arcsD (castA l))]), (20, .row 1 (rowN n (fun w => inC l [] w))), (37, .cells [.nilS])] (by refine ⟨?_, ?_⟩ <;> (repeat' first | exact fmn | refine fmc ⟨(by first | rfl | (simp (disch := omega) only [go_sem, simprocAttr, inL]; first | done | omega | (congr 1; done))), ?_⟩); done) ?_
   refine pw_ent _ (ent_nilC 37 0 900 1 rfl rfl rfl) ?_
   refine pw_loopI (κ := Nat × List Nat × Nat) (fun (q : Nat × List Nat × Nat) => match q with | (v, q, c) => v ≤ n ∧ q.Perm ((List.range v).filter fun w => decide (inC l [] w = 0)) ∧ q.length ≤ c) (fun (q : Nat × List Nat × Nat) => match q with | (v, q, c) => [(1, .ptr 1 0 0 0), (4, .ref 20 1 0 n n), (7, .ptr 37 0 0 0), (38, .ref 20 1 0 n n), (39, .int n), (40, .int v)]) (fun (q : Nat × List Nat × Nat) => match q with | (v, q, c) => [(1, .cells [.int n, .d (arcsD (castA l))]), (20, .row 1 (rowN n (fun w => inC l [] w))), (37, .cells [.ref 900 1 0 q.length c]), (900, .row 1 (q.map natD))]) (fun (q : Nat × List Nat × Nat) => match q with | (v, q, c) => n - v) (0, [], 0) ?_ ?_ ?_
   ·exact ⟨Nat.zero_le _, List.Perm.nil, Nat.le_refl _⟩
   ·exact eL [] _ _ (by refine ⟨?_, ?_⟩ <;> (repeat' first | exact fmn | refine fmc ⟨(by first | rfl | (simp (disch := omega) only [go_sem, simprocAttr, inL]; first | done | omega | (congr 1; done))), ?_⟩); done)
   ·rintro ⟨v, q, c⟩ ⟨hv, hq, hqc⟩
    dsimp only at hv hq hqc ⊢
    have hql : q.length ≤ v := by
     rw [hq.length_eq]
     exact Nat.le_trans (List.length_filter_le _ _) (by simp)
    rcases Nat.lt_or_ge v n with hlt | hge
    ·have hg := rowN_get (fun w => inC l [] w) hlt
     by_cases c0 : inC l [] v = 0
     ·have c0' : ((inC l [] v : Nat) : Int) = 0 := by omega
      have hps := Push_spec q q.length c v rfl (by omega)
      have hpp := Go.Hp.pushF_perm q v
      have hpl : (pushF q v).length = q.length + 1 := by rw [hpp.length_eq]; simp
      repeat' first | refine pw_step rfl ?_ | refine wR ?_ | refine rcM [(1000, 37), (1001, 900), (2000, 903)] (hps) rfl ?_ | (refine wpG_split rfl rfl (fun hc => ?_) (fun hc => ?_) <;> try simp only [hcL] at hc) | (refine pw_cond _ rfl rfl (fun hc => ?_) (fun hc => ?_) <;> (try simp only [hcL] at hc) <;> try omega) | simp (disch := omega) only [go_sem, simprocAttr, hg, rowN_len, c0'] | apply And.intro | omega | decide +kernel
      refine ⟨(v + 1, pushF q v, q.length + 1), ?_, eL [(900, 903)] _ _ (by refine ⟨?_, ?_⟩ <;> (repeat' first | exact fmn | refine fmc ⟨(by first | rfl | (simp (disch := omega) only [go_sem, simprocAttr, inL, hpl]; first | done | omega | (congr 1; done))), ?_⟩); done), ?_⟩
      ·dsimp only
       refine ⟨by omega, ?_, by omega⟩
       rw [List.range_succ, List.filter_append]
       refine hpp.trans (List.Perm.append hq ?_)
       rw [List.filter_cons, if_pos (by simp [c0])]
       exact List.Perm.refl _
      ·dsimp only; omega
     ·have c0' : ¬ ((inC l [] v : Nat) : Int) = 0 := by omega
      repeat' first | refine pw_step rfl ?_ | refine wR ?_ | (refine wpG_split rfl rfl (fun hc => ?_) (fun hc => ?_) <;> try simp only [hcL] at hc) | (refine pw_cond _ rfl rfl (fun hc => ?_) (fun hc => ?_) <;> (try simp only [hcL] at hc) <;> try omega) | simp (disch := omega) only [go_sem, simprocAttr, hg, rowN_len, c0'] | apply And.intro | omega | decide +kernel
      refine ⟨(v + 1, q, c), ?_, eL [] _ _ (by refine ⟨?_, ?_⟩ <;> (repeat' first | exact fmn | refine fmc ⟨(by first | rfl | (simp (disch := omega) only [go_sem, simprocAttr, inL]; first | done | omega | (congr 1; done))), ?_⟩); done), ?_⟩
      ·dsimp only
       refine ⟨by omega, ?_, hqc⟩
       rw [List.range_succ, List.filter_append, List.filter_cons, if_neg (by simp [c0])]
       simpa using hq
      ·dsimp only; omega
    ·have hvn : n = v := by omega
     subst hvn
     repeat' first | refine pw_step rfl ?_ | refine pw_region (Nat.beq 55) hmix ?_ | (refine rc (hhd) rfl ?_ ?_; (· first | rfl | simp (disch := omega) only [go_sem, simprocAttr, rowN_len])) | (refine wpG_split rfl rfl (fun hc => ?_) (fun hc => ?_) <;> try simp only [hcL] at hc) | (refine pw_cond _ rfl rfl (fun hc => ?_) (fun hc => ?_) <;> (try simp only [hcL] at hc) <;> try omega) | simp (disch := omega) only [go_sem, simprocAttr, rowN_len] | apply And.intro | omega | decide +kernel
     refine pw_loopI (κ := List Nat × Nat × List Nat × (Nat → Nat)) (fun (q : List Nat × Nat × List Nat × (Nat → Nat)) => match q with | (q, c, o, op) => Kahn n l q o op ∧ q.length ≤ c) (fun (q : List Nat × Nat × List Nat × (Nat → Nat)) => match q with | (q, c, o, op) => [(1, .ptr 1 0 0 0), (4, .ref 20 1 0 n n), (7, .ptr 37 0 0 0), (10, .d (.sl (headsR n l))), (11, .ref 901 1 0 o.length o.length)]) (fun (q : List Nat × Nat × List Nat × (Nat → Nat)) => match q with | (q, c, o, op) => [(1, .cells [.int n, .d (arcsD (castA l))]), (20, .row 1 (rowN n op)), (37, .cells [.ref 900 1 0 q.length c]), (900, .row 1 (q.map natD)), (901, .row 1 (o.map natD))]) (fun (q : List Nat × Nat × List Nat × (Nat → Nat)) => match q with | (q, c, o, op) => n - o.length) (q, c, [], fun w => inC l [] w) ?_ ?_ ?_
     ·refine ⟨⟨?_, ?_, fun w _ => rfl, fun w hw => ?_, Go.Cy.peel_nil l⟩, hqc⟩
      ·rw [List.append_nil]; exact hq.nodup_iff.2 (List.nodup_range.filter _)
      ·intro w hw
       rw [List.append_nil, hq.mem_iff, List.mem_filter] at hw
       exact List.mem_range.1 hw.1
      ·rw [List.append_nil, hq.mem_iff, List.mem_filter, List.mem_range]
       simp [hw]
     ·exact eL [(901, 55)] _ _ (by refine ⟨?_, ?_⟩ <;> (repeat' first | exact fmn | refine fmc ⟨(by first | rfl | (simp (disch := omega) only [go_sem, simprocAttr, inL]; first | done | omega | (congr 1; done))), ?_⟩); done)
     ·rintro ⟨q, c, o, op⟩ ⟨hK, hqc⟩
      dsimp only at hK hqc ⊢
      have hqo : q.length + o.length ≤ n := by
       have := Go.Cy.nd_le hK.nd hK.lt
       simpa using this
      have hlen := qLen q q.length c rfl
      rcases Nat.eq_zero_or_pos q.length with hq0 | hqp
      ·have hqn : q = [] := List.eq_nil_of_length_eq_zero hq0
       subst hqn
       have hfin := hK.fin hi hnl
       by_cases c1 : o.length < n
       ·have hb : acyB l = false := by
         cases hb : acyB l
         ·rfl
         ·exact (hfin.2 (acyB_iff.1 hb) c1).elim
        rw [hb]
        repeat' first | refine pw_step rfl ?_ | refine wR ?_ | refine rcM [(1001, 900)] (hlen) rfl ?_ | (refine wpG_split rfl rfl (fun hc => ?_) (fun hc => ?_) <;> try simp only [hcL] at hc) | (refine pw_cond _ rfl rfl (fun hc => ?_) (fun hc => ?_) <;> (try simp only [hcL] at hc) <;> try omega) | simp (disch := omega) only [go_sem, simprocAttr] | apply And.intro | omega | decide +kernel
        refine pw_ret ?_
        refine ⟨_, entL_iff.1 (eL [] [(3, .bool false)] [] (by refine ⟨?_, ?_⟩ <;> (repeat' first | exact fmn | refine fmc ⟨(by first | rfl | (simp (disch := omega) only [go_sem, simprocAttr, inL]; first | done | omega | (congr 1; done))), ?_⟩); done)), ?_⟩
        exact ⟨⟨_, rfl, rfl, rfl, trivial⟩, fmn⟩
       ·have hb : acyB l = true := acyB_iff.2 (hfin.1 c1)
        rw [hb]
        repeat' first | refine pw_step rfl ?_ | refine wR ?_ | refine rcM [(1001, 900)] (hlen) rfl ?_ | (refine wpG_split rfl rfl (fun hc => ?_) (fun hc => ?_) <;> try simp only [hcL] at hc) | (refine pw_cond _ rfl rfl (fun hc => ?_) (fun hc => ?_) <;> (try simp only [hcL] at hc) <;> try omega) | simp (disch := omega) only [go_sem, simprocAttr] | apply And.intro | omega | decide +kernel
        refine pw_ret ?_
        refine ⟨_, entL_iff.1 (eL [] [(3, .bool true)] [] (by refine ⟨?_, ?_⟩ <;> (repeat' first | exact fmn | refine fmc ⟨(by first | rfl | (simp (disch := omega) only [go_sem, simprocAttr, inL]; first | done | omega | (congr 1; done))), ?_⟩); done)), ?_⟩
        exact ⟨⟨_, rfl, rfl, rfl, trivial⟩, fmn⟩
      ·have hpop := Pop_spec q q.length c rfl hqp (by omega) hqc
       obtain ⟨v, hv⟩ : ∃ v, v = popX q := ⟨_, rfl⟩
       rw [← hv] at hpop
       have hpp := Go.Hp.pop_perm hqp
       rw [← hv] at hpp
       have hI := hK.pop hpp
       have hvn : v < n := hI.lt v (by simp)
       have hrl := Go.Hp.popR_len hqp
       have hrow : (headsR n l)[v]? = some (.sl (hdsD l v)) := by rw [List.getElem?_map, List.getElem?_range hvn]; rfl
       have hhl : (headsR n l).length = n := by simp
       have hdl : (hdsD l v).length = (hds l v).length := by rw [hds_eq, List.length_map]
       repeat' first | refine pw_step rfl ?_ | refine wR ?_ | refine rcM [(1001, 900)] (hlen) rfl ?_ | refine rcM [(1000, 37), (1001, 900)] (hpop) rfl ?_ | (refine wpG_split rfl rfl (fun hc => ?_) (fun hc => ?_) <;> try simp only [hcL] at hc) | (refine pw_cond _ rfl rfl (fun hc => ?_) (fun hc => ?_) <;> (try simp only [hcL] at hc) <;> try omega) | simp (disch := omega) only [go_sem, simprocAttr, hrow, hhl, hdl, roomy, take_map_len] | exact nat_one _ | apply And.intro | omega | decide +kernel
       refine pw_loopI (κ := Nat × List Nat × Nat × (Nat → Nat)) (fun (q : Nat × List Nat × Nat × (Nat → Nat)) => match q with | (j, q', c', op') => j ≤ (hds l v).length ∧ KahnI n l q' (o ++ [v]) ((hds l v).drop j) op' ∧ q'.length ≤ c') (fun (q : Nat × List Nat × Nat × (Nat → Nat)) => match q with | (j, q', c', op') => [(1, .ptr 1 0 0 0), (4, .ref 20 1 0 n n), (7, .ptr 37 0 0 0), (10, .d (.sl (headsR n l))), (11, .ref 901 1 0 (o ++ [v]).length (o ++ [v]).length), (73, .d (.sl (hdsD l v))), (74, .int (hds l v).length), (75, .int j)]) (fun (q : Nat × List Nat × Nat × (Nat → Nat)) => match q with | (j, q', c', op') => [(1, .cells [.int n, .d (arcsD (castA l))]), (20, .row 1 (rowN n op')), (37, .cells [.ref 900 1 0 q'.length c']), (900, .row 1 (q'.map natD)), (901, .row 1 ((o ++ [v]).map natD))]) (fun (q : Nat × List Nat × Nat × (Nat → Nat)) => match q with | (j, q', c', op') => (hds l v).length - j) (0, popR q, c, op) ?_ ?_ ?_
       ·exact ⟨Nat.zero_le _, by rw [List.drop_zero]; exact hI, by omega⟩
       ·exact eL [(901, 69)] _ _ (by refine ⟨?_, ?_⟩ <;> (repeat' first | exact fmn | refine fmc ⟨(by first | rfl | (simp (disch := omega) only [go_sem, simprocAttr, inL, hrl, List.length_append, List.length_singleton, List.map_append, List.map_cons, List.map_nil]; first | done | omega | (congr 1; done))), ?_⟩); done)
       ·rintro ⟨j, q', c', op'⟩ ⟨hj, hJ, hqc'⟩
        dsimp only at hj hJ hqc' ⊢
        have hqo' : q'.length ≤ n := by
         have := Go.Cy.nd_le hJ.nd hJ.lt
         rw [List.length_append] at this; omega
        have hhb : (hds l v).length ≤ 256 := by rw [hds, List.length_map]; exact Nat.le_trans (List.length_filter_le _ _) hll
        rcases Nat.lt_or_ge j (hds l v).length with hlt2 | hge2
        ·obtain ⟨w, hw⟩ := get_some hlt2
         have hwd : (hds l v).drop j = w :: (hds l v).drop (j + 1) := by
          obtain ⟨h2, h3⟩ := List.getElem?_eq_some_iff.1 hw
          rw [List.drop_eq_getElem_cons h2, h3]
         rw [hwd] at hJ
         have hwn : w < n := by
          have := List.mem_of_getElem? hw
          obtain ⟨a, ha, rfl⟩ := List.mem_map.1 this
          exact (hi a (List.mem_filter.1 ha).1).2
         have hwD : (hdsD l v)[j]? = some (natD w) := by rw [hds_eq, List.getElem?_map, hw]; rfl
         have hg := rowN_get op' hwn
         have hpos := hJ.pos hwn
         have hb : op' w ≤ 1000 := by
          rw [hJ.num w hwn]
          have h1 := inC_le l (o ++ [v]) w
          have h2 : Go.Cy.occ (w :: (hds l v).drop (j + 1)) w ≤ l.length := by
           rw [← hwd]
           refine Nat.le_trans (List.length_filter_le _ _) ?_
           rw [List.length_drop]
           have : (hds l v).length ≤ l.length := by rw [hds, List.length_map]; exact List.length_filter_le _ _
           omega
          omega
         have e1 : ((op' w : Nat) : Int) - 1 = (op' w - 1 : Nat) := by omega
         obtain ⟨f', hf'⟩ : ∃ f' : Nat → Nat, f' = fun u => if u = w then op' w - 1 else op' u := ⟨_, rfl⟩
         have hfw : ∀ u, u < n → f' u = if u = w then op' w - 1 else op' u := fun u _ => by rw [hf']
         have hs := rowN_set (n := n) (f := op') (f' := f') (i := w) (x := op' w - 1) hfw
         have hg2 := rowN_get f' hwn
         rw [hfw w hwn, if_pos rfl] at hg2
         by_cases c0 : op' w = 1
         ·have e10 : ((op' w : Nat) : Int) - 1 = 0 := by omega
          have hs0 : (rowN n op').set w (.int 0) = rowN n f' := by rw [← hs, c0]; rfl
          have hg20 : (rowN n f')[w]? = some (.int 0) := by rw [hg2, c0]; rfl
          have hps := Push_spec q' q'.length c' w rfl (by omega)
          have hpp2 := Go.Hp.pushF_perm q' w
          have hpl : (pushF q' w).length = q'.length + 1 := by rw [hpp2.length_eq]; simp
          repeat' first | refine pw_step rfl ?_ | refine wR ?_ | refine rcM [(1000, 37), (1001, 900), (2000, 903)] (hps) rfl ?_ | (refine wpG_split rfl rfl (fun hc => ?_) (fun hc => ?_) <;> try simp only [hcL] at hc) | (refine pw_cond _ rfl rfl (fun hc => ?_) (fun hc => ?_) <;> (try simp only [hcL] at hc) <;> try omega) | simp (disch := omega) only [go_sem, simprocAttr, hwD, hdl, hg, e10, rowN_len, hs0, hg20] | apply And.intro | omega | decide +kernel
          refine ⟨(j + 1, pushF q' w, q'.length + 1, f'), ?_, eL [(900, 903)] _ _ (by refine ⟨?_, ?_⟩ <;> (repeat' first | exact fmn | refine fmc ⟨(by first | rfl | (simp (disch := omega) only [go_sem, simprocAttr, inL, hpl]; first | done | omega | (congr 1; done))), ?_⟩); done), ?_⟩
          ·dsimp only
           exact ⟨by omega, hJ.push hwn hfw c0 hpp2, by omega⟩
          ·dsimp only; omega
         ·have c0' : ¬ ((op' w - 1 : Nat) : Int) = 0 := by omega
          repeat' first | refine pw_step rfl ?_ | refine wR ?_ | (refine wpG_split rfl rfl (fun hc => ?_) (fun hc => ?_) <;> try simp only [hcL] at hc) | (refine pw_cond _ rfl rfl (fun hc => ?_) (fun hc => ?_) <;> (try simp only [hcL] at hc) <;> try omega) | simp (disch := omega) only [go_sem, simprocAttr, hwD, hdl, hg, e1, rowN_len, hs, hg2, c0'] | apply And.intro | omega | decide +kernel
          refine ⟨(j + 1, q', c', f'), ?_, eL [] _ _ (by refine ⟨?_, ?_⟩ <;> (repeat' first | exact fmn | refine fmc ⟨(by first | rfl | (simp (disch := omega) only [go_sem, simprocAttr, inL]; first | done | omega | (congr 1; done))), ?_⟩); done), ?_⟩
          ·dsimp only
           exact ⟨by omega, hJ.keep hwn hfw c0, hqc'⟩
          ·dsimp only; omega
        ·have hjl : j = (hds l v).length := by omega
         subst hjl
         rw [List.drop_length] at hJ
         repeat' first | refine pw_step rfl ?_ | refine wR ?_ | (refine wpG_split rfl rfl (fun hc => ?_) (fun hc => ?_) <;> try simp only [hcL] at hc) | (refine pw_cond _ rfl rfl (fun hc => ?_) (fun hc => ?_) <;> (try simp only [hcL] at hc) <;> try omega) | simp (disch := omega) only [go_sem, simprocAttr] | apply And.intro | omega | decide +kernel
         refine ⟨(q', c', o ++ [v], op'), ?_, eL [] _ _ (by refine ⟨?_, ?_⟩ <;> (repeat' first | exact fmn | refine fmc ⟨(by first | rfl | (simp (disch := omega) only [go_sem, simprocAttr, inL]; first | done | omega | (congr 1; done))), ?_⟩); done), ?_⟩
         ·dsimp only
          exact ⟨hJ.done, hqc'⟩
         ·dsimp only
          rw [List.length_append, List.length_singleton]; omega
end Go.Proofs.YthbcmebhpabpnaaDoor
namespace Go.Proofs.YthbcmebhpabpnaaDoor
open Go Go.PS Go.Proofs
open Go.Cy (NA InN noLoops Acy SetOk Brk flipN Asc)
set_option maxRecDepth 100000
attribute [local irreducible] wpRun wpG CallsTo CallsM

abbrev castL (s : List Nat) : List Int := s.map fun x : Nat => (x : Int)
theorem castL_get {s : List Nat} {i x : Nat} (h : s[i]? = some x) : (castL s)[i]? = some (x : Int) := by simp [h]
theorem toNat_castL : ∀ t : List Nat, (castL t).map Int.toNat = t
 | [] => rfl
 | x :: t => by
  have := toNat_castL t
  simp only [castL, List.map_cons] at this ⊢
  rw [this]; rfl
theorem intsD_castL (s : List Nat) : intsD (castL s) = natsD s := by simp [intsD, natsD, Function.comp]
def ati (s : List Int) (i : Nat) : Int := (s[i]?).getD 0
def okAt (l : List NA) (s : List Int) (i : Nat) : Bool := match s[i]? with
 | some e => decide (0 ≤ e) && (match l[e.toNat]? with | some a => !decide (a.1 = a.2) | none => false) && (decide (i = 0) || decide (ati s (i - 1) < e))
 | none => true
def okS (l : List NA) (s : List Int) : Bool := allN (okAt l s) s.length
theorem okS_sets {l : List NA} {s : List Int} (h : okS l s = true) : ∃ t, s = castL t ∧ SetOk l t := by
 rw [okS, allN_iff] at h
 have key : ∀ (i : Nat) e, s[i]? = some e → 0 ≤ e ∧ (∃ a, l[e.toNat]? = some a ∧ a.1 ≠ a.2) ∧ (i = 0 ∨ ati s (i - 1) < e) := by
  intro i e he
  have h1 := h i (List.getElem?_eq_some_iff.1 he).1
  simp only [okAt, he, Bool.and_eq_true, Bool.or_eq_true, decide_eq_true_eq] at h1
  refine ⟨h1.1.1, ?_, h1.2⟩
  cases hl : l[e.toNat]? with
  | none => rw [hl] at h1; cases h1.1.2
  | some a => rw [hl] at h1; exact ⟨a, rfl, by simpa using h1.1.2⟩
 have e1 : s = castL (s.map Int.toNat) := by
  refine List.ext_getElem? fun k => ?_
  rw [castL, List.map_map, List.getElem?_map]
  cases hk : s[k]? with
  | none => rfl
  | some e => have := (key k e hk).1; simp only [Option.map_some, Function.comp, Option.some.injEq]; omega
 refine ⟨s.map Int.toNat, e1, ?_, ?_⟩
 ·have step : ∀ (j i : Nat) (a b : Int), i < j → s[i]? = some a → s[j]? = some b → a < b := by
   intro j
   induction j with
   | zero => intro i a b h; omega
   | succ j ih =>
    intro i a b hij ha hb
    have h2 := (key (j + 1) b hb).2.2.resolve_left (by omega)
    have hjl : j < s.length := by have := (List.getElem?_eq_some_iff.1 hb).1; omega
    obtain ⟨c, hc⟩ := get_some hjl
    rw [Nat.add_sub_cancel, ati, hc] at h2
    simp only [Option.getD_some] at h2
    rcases Nat.lt_succ_iff_lt_or_eq.1 hij with h3 | rfl
    ·have := ih i a c h3 ha hc; omega
    ·rw [ha] at hc; cases hc; exact h2
  rw [Asc, List.pairwise_iff_getElem]
  intro i j hi hj hij
  simp only [List.length_map] at hi hj
  have h3 := step j i s[i] s[j] hij (List.getElem?_eq_getElem hi) (List.getElem?_eq_getElem hj)
  have h4 := (key i _ (List.getElem?_eq_getElem hi)).1
  have h5 := (key j _ (List.getElem?_eq_getElem hj)).1
  simp only [List.getElem_map]
  omega
 ·intro x hx
  obtain ⟨e, he, rfl⟩ := List.mem_map.1 hx
  obtain ⟨i, hi⟩ := List.mem_iff_getElem?.1 he
  exact (key i e hi).2.1
theorem okS_of {l : List NA} {t : List Nat} (h : SetOk l t) : okS l (castL t) = true := by
 rw [okS, allN_iff]
 intro i hi
 rw [List.length_map] at hi
 obtain ⟨x, hx⟩ := get_some hi
 obtain ⟨a, ha, hn⟩ := h.2 x (List.mem_of_getElem? hx)
 simp only [okAt, castL_get hx, Int.toNat_natCast, ha, Bool.and_eq_true, Bool.or_eq_true, decide_eq_true_eq]
 refine ⟨⟨by omega, by simp [hn]⟩, ?_⟩
 rcases Nat.eq_zero_or_pos i with h0 | h0
 ·exact .inl h0
 ·right
  obtain ⟨y, hy⟩ := get_some (show i - 1 < t.length by omega)
  have h2 := (List.pairwise_iff_getElem.1 h.1) (i - 1) i (by omega) hi (by omega)
  rw [(List.getElem?_eq_some_iff.1 hy).2, (List.getElem?_eq_some_iff.1 hx).2] at h2
  rw [ati, castL_get hy]
  simp only [Option.getD_some]; omega
theorem gOk_of {n : Nat} {l : List NA} (hn : n ≤ 64) (hll : l.length ≤ 256) (hi : InN n l) : gOk ((n : Int), castA l) = true := by
 simp only [gOk, Bool.and_eq_true, decide_eq_true_eq, Bool.not_eq_true', List.any_eq_false, castA_len]
 refine ⟨⟨by omega, by omega, hll⟩, fun b hb => ?_⟩
 obtain ⟨a, ha, rfl⟩ := List.mem_map.1 hb
 have := hi a ha
 simp only [arcIn, Bool.not_eq_true', decide_eq_false_iff_not, Classical.not_not]
 omega
theorem flip_cast (l : List NA) (t : List Nat) : flipL (castA l) (castL t) = castA (flipN l t) := by
 refine List.ext_getElem? fun k => ?_
 rcases Nat.lt_or_ge k l.length with h | h
 ·obtain ⟨a, ha⟩ := get_some h
  rw [flipL_get (castA_get ha), castA_get (Go.Cy.flipN_get ha)]
  have : hasF (castL t) (k : Int) = decide (k ∈ t) := by
   rw [Bool.eq_iff_iff]
   simp only [hasF, List.any_eq_true, decide_eq_true_eq, List.mem_map]
   constructor
   ·rintro ⟨x, ⟨y, hy, rfl⟩, h2⟩
    have : y = k := by omega
    exact this ▸ hy
   ·intro hk; exact ⟨_, ⟨k, hk, rfl⟩, rfl⟩
  rw [this]
  by_cases c : k ∈ t
  ·simp [c, swapA]
  ·simp [c]
 ·rw [List.getElem?_eq_none (by rw [flipL_len, castA_len]; exact h), List.getElem?_eq_none (by rw [castA_len, Go.Cy.flipN_len]; exact h)]
theorem listF_ok {l : List NA} {t : List Nat} (h : SetOk l t) : listF (castL t) l.length = 0 := by
 have key : ∀ k, k ≤ t.length → firstE (badAt (castL t) l.length) k = 0 := by
  intro k
  induction k with
  | zero => intro _; rfl
  | succ k ih =>
   intro hk
   refine firstE_succ (ih (by omega)) ?_
   obtain ⟨x, hx⟩ := get_some (show k < t.length by omega)
   obtain ⟨a, ha, hn⟩ := h.2 x (List.mem_of_getElem? hx)
   have hxl := (List.getElem?_eq_some_iff.1 ha).1
   simp only [badAt, castL_get hx]
   rw [if_neg (by omega), if_neg]
   simp only [hasF, List.any_eq_true, decide_eq_true_eq, not_exists, not_and]
   rintro y hy rfl
   rw [castL, ← List.map_take] at hy
   obtain ⟨z, hz, he⟩ := List.mem_map.1 hy
   obtain ⟨i, hi⟩ := List.mem_iff_getElem?.1 hz
   rw [List.getElem?_take] at hi
   split at hi
   ·rename_i hik
    have hi2 := List.getElem?_eq_some_iff.1 hi
    have hx2 := List.getElem?_eq_some_iff.1 hx
    have := (List.pairwise_iff_getElem.1 h.1) i k hi2.1 hx2.1 hik
    rw [hi2.2, hx2.2] at this; omega
   ·cases hi
 have := key t.length (Nat.le_refl _)
 rw [listF, List.length_map]; exact this
noncomputable def brkB (l : List NA) (s : List Int) : Bool := okS l s && acyB (flipN l (s.map Int.toNat))
theorem brkB_iff {l : List NA} {t : List Nat} : brkB l (castL t) = true ↔ Brk l t := by
 have e := toNat_castL t
 rw [brkB, e, Bool.and_eq_true, acyB_iff, Brk]
 constructor
 ·rintro ⟨h1, h2⟩
  obtain ⟨t', h3, h4⟩ := okS_sets h1
  have : t = t' := by
   have := congrArg (List.map Int.toNat) h3
   rw [e] at this
   rw [this]; exact toNat_castL t'
  subst this
  exact ⟨h4, h2⟩
 ·rintro ⟨h1, h2⟩
  exact ⟨okS_of h1, h2⟩
set_option maxHeartbeats 2000000 in
theorem Breaks_bad (g : Gr) (s : List Int) (h : gOk g = false) : CallsTo Tryd.prog 10 [gD g, intsD s] (.bool false) := by
 have hv : CallsTo Tryd.prog 23 [gD g] (.bool false) := h ▸ Valid_spec g
 refine callsTo_of Tryd.func10 rfl (by decide +kernel) (Nat.le_of_ble_eq_true rfl) ?_
 intro hat B X w0
 repeat' first | refine pw_step rfl ?_ | refine pw_ret ?_ | refine wR ?_ | (refine rc (hv) rfl ?_ ?_; (· first | rfl | simp (disch := omega) only [go_sem, simprocAttr])) | (refine wpG_split rfl rfl (fun hc => ?_) (fun hc => ?_) <;> try simp only [hcL] at hc) | (refine pw_cond _ rfl rfl (fun hc => ?_) (fun hc => ?_) <;> (try simp only [hcL] at hc) <;> try omega) | simp (disch := omega) only [go_sem, simprocAttr] | apply And.intro | omega | decide +kernel
 exact rfl
set_option maxHeartbeats 16000000 in
theorem Breaks_ok (n : Nat) (l : List NA) (s : List Int) (h : gOk ((n : Int), castA l) = true) (hi : InN n l) (hn : n ≤ 64) (hll : l.length ≤ 256) : CallsTo Tryd.prog 10 [gD ((n : Int), castA l), intsD s] (.bool (brkB l s)) := by
 have hv : CallsTo Tryd.prog 23 [gD ((n : Int), castA l)] (.bool true) := h ▸ Valid_spec _
 have hcl := castA_len l
 refine callsTo_of Tryd.func10 rfl (by decide +kernel) (Nat.le_of_ble_eq_true rfl) ?_
 intro hat B X w0
 have hsl := at_len 1 hat rfl
 rw [List.length_map] at hsl
 repeat' first | refine pw_step rfl ?_ | refine pw_ret ?_ | refine wR ?_ | (refine rc (hv) rfl ?_ ?_; (· first | rfl | simp (disch := omega) only [go_sem, simprocAttr, hcl])) | (refine wpG_split rfl rfl (fun hc => ?_) (fun hc => ?_) <;> try simp only [hcL] at hc) | (refine pw_cond _ rfl rfl (fun hc => ?_) (fun hc => ?_) <;> (try simp only [hcL] at hc) <;> try omega) | simp (disch := omega) only [go_sem, simprocAttr, hcl] | apply And.intro | omega | decide +kernel
 refine pw_loopI (κ := Nat) (fun (k : Nat) => k ≤ s.length ∧ allN (okAt l s) k = true) (fun (k : Nat) => [(1, .d (intsD s)), (2, .ptr 2 0 0 0), (14, .d (intsD s)), (15, .int s.length), (16, .int k)]) (fun (k : Nat) => [(2, .cells [.int n, .d (arcsD (castA l))])]) (fun (k : Nat) => s.length - k) 0 ?_ ?_ ?_
 ·exact ⟨Nat.zero_le _, rfl⟩
 ·exact eL [] _ _ (by refine ⟨?_, ?_⟩ <;> (repeat' first | exact fmn | refine fmc ⟨(by first | rfl | (simp (disch := omega) only [go_sem, simprocAttr, inL]; first | done | omega | (congr 1; done))), ?_⟩); done)
 ·rintro k ⟨hk, hinv⟩
  rcases Nat.lt_or_ge k s.length with hlt | hge
  ·obtain ⟨e, he⟩ := get_some hlt
   have bad : okAt l s k = false → brkB l s = false := fun h => by rw [brkB, okS, allN_false hlt h]; rfl
   by_cases c1 : e < 0
   ·rw [bad (by simp [okAt, he]; omega)]
    repeat' first | refine pw_step rfl ?_ | refine pw_ret ?_ | refine wR ?_ | (refine wpG_split rfl rfl (fun hc => ?_) (fun hc => ?_) <;> try simp only [hcL] at hc) | (refine pw_cond _ rfl rfl (fun hc => ?_) (fun hc => ?_) <;> (try simp only [hcL] at hc) <;> try omega) | simp (disch := omega) only [go_sem, simprocAttr, he, hcl, c1] | apply And.intro | omega | decide +kernel
    all_goals exact rfl
   ·obtain ⟨x, rfl⟩ : ∃ x : Nat, e = x := ⟨e.toNat, by omega⟩
    rcases Nat.lt_or_ge x l.length with hxl | hxl
    ·obtain ⟨a, ha⟩ := get_some hxl
     have hp := castA_get ha
     by_cases c2 : a.1 = a.2
     ·rw [bad (by simp [okAt, he, ha, c2])]
      have c2' : (a.1 : Int) = a.2 := by omega
      repeat' first | refine pw_step rfl ?_ | refine pw_ret ?_ | refine wR ?_ | (refine wpG_split rfl rfl (fun hc => ?_) (fun hc => ?_) <;> try simp only [hcL] at hc) | (refine pw_cond _ rfl rfl (fun hc => ?_) (fun hc => ?_) <;> (try simp only [hcL] at hc) <;> try omega) | simp (disch := omega) only [go_sem, simprocAttr, he, hcl, hp, c2'] | apply And.intro | omega | decide +kernel
      all_goals exact rfl
     ·have c2' : ¬ (a.1 : Int) = a.2 := by omega
      rcases Nat.eq_zero_or_pos k with rfl | h0
      ·repeat' first | refine pw_step rfl ?_ | refine pw_ret ?_ | refine wR ?_ | (refine wpG_split rfl rfl (fun hc => ?_) (fun hc => ?_) <;> try simp only [hcL] at hc) | (refine pw_cond _ rfl rfl (fun hc => ?_) (fun hc => ?_) <;> (try simp only [hcL] at hc) <;> try omega) | simp (disch := omega) only [go_sem, simprocAttr, he, hcl, hp, c2'] | apply And.intro | omega | decide +kernel
       refine ⟨0 + 1, ?_, eL [] _ _ (by refine ⟨?_, ?_⟩ <;> (repeat' first | exact fmn | refine fmc ⟨(by first | rfl | (simp (disch := omega) only [go_sem, simprocAttr, inL]; first | done | omega | (congr 1; done))), ?_⟩); done), ?_⟩
       ·exact ⟨by omega, allN_succ rfl (by simp [okAt, he, ha, c2])⟩
       ·omega
      ·obtain ⟨y, hy⟩ := get_some (show k - 1 < s.length by omega)
       have e1 : (k : Int) - 1 = (k - 1 : Nat) := by omega
       have hya : ati s (k - 1) = y := by rw [ati, hy]; rfl
       by_cases c3 : y < x
       ·repeat' first | refine pw_step rfl ?_ | refine pw_ret ?_ | refine wR ?_ | (refine wpG_split rfl rfl (fun hc => ?_) (fun hc => ?_) <;> try simp only [hcL] at hc) | (refine pw_cond _ rfl rfl (fun hc => ?_) (fun hc => ?_) <;> (try simp only [hcL] at hc) <;> try omega) | simp (disch := omega) only [go_sem, simprocAttr, he, hcl, hp, c2', e1, hy] | apply And.intro | omega | decide +kernel
        refine ⟨k + 1, ?_, eL [] _ _ (by refine ⟨?_, ?_⟩ <;> (repeat' first | exact fmn | refine fmc ⟨(by first | rfl | (simp (disch := omega) only [go_sem, simprocAttr, inL]; first | done | omega | (congr 1; done))), ?_⟩); done), ?_⟩
        ·exact ⟨by omega, allN_succ hinv (by simp [okAt, he, ha, c2, hya, c3])⟩
        ·omega
       ·rw [bad (by simp [okAt, he, ha, c2, hya, c3]; omega)]
        repeat' first | refine pw_step rfl ?_ | refine pw_ret ?_ | refine wR ?_ | (refine wpG_split rfl rfl (fun hc => ?_) (fun hc => ?_) <;> try simp only [hcL] at hc) | (refine pw_cond _ rfl rfl (fun hc => ?_) (fun hc => ?_) <;> (try simp only [hcL] at hc) <;> try omega) | simp (disch := omega) only [go_sem, simprocAttr, he, hcl, hp, c2', e1, hy] | apply And.intro | omega | decide +kernel
        all_goals exact rfl
    ·rw [bad (by simp [okAt, he, List.getElem?_eq_none hxl])]
     repeat' first | refine pw_step rfl ?_ | refine pw_ret ?_ | refine wR ?_ | (refine wpG_split rfl rfl (fun hc => ?_) (fun hc => ?_) <;> try simp only [hcL] at hc) | (refine pw_cond _ rfl rfl (fun hc => ?_) (fun hc => ?_) <;> (try simp only [hcL] at hc) <;> try omega) | simp (disch := omega) only [go_sem, simprocAttr, he, hcl] | apply And.intro | omega | decide +kernel
     all_goals exact rfl
  ·have hk : k = s.length := by omega
   subst hk
   obtain ⟨t, rfl, ht⟩ := okS_sets hinv
   have hF := Flip_spec ((n : Int), castA l) (castL t)
   have eF : flipF ((n : Int), castA l) (castL t) = (((n : Int), castA (flipN l t)), 0) := by
    have h2 := listF_ok ht
    rw [flipF, if_pos h]
    simp only [hcl, h2, if_true, flip_cast]
   rw [eF] at hF
   have hfl := Go.Cy.flipN_len l t
   have hfi := Go.Cy.flipN_in (set := t) hi
   have hpl := plain_spec n (flipN l t) (by omega)
   have hni : InN n (noLoops (flipN l t)) := fun a ha => hfi a (List.mem_filter.1 ha).1
   have hnll : (noLoops (flipN l t)).length ≤ 256 := Nat.le_trans (List.length_filter_le _ _) (by omega)
   have hO := Order_spec n (noLoops (flipN l t)) (gOk_of hn hnll hni) hni hn hnll (fun a ha => by simpa using (List.mem_filter.1 ha).2)
   have eB : brkB l (castL t) = acyB (noLoops (flipN l t)) := by
    have e := toNat_castL t
    rw [brkB, okS, hinv, e, Bool.true_and, Bool.eq_iff_iff, acyB_iff, acyB_iff, Go.Cy.acy_noLoops]
   rw [eB]
   repeat' first | refine pw_step rfl ?_ | refine pw_ret ?_ | refine wR ?_ | (refine rc (hF) rfl ?_ ?_; (· first | rfl | simp (disch := omega) only [go_sem, simprocAttr, hcl])) | (refine rc (hpl) rfl ?_ ?_; (· first | rfl | simp (disch := omega) only [go_sem, simprocAttr, hcl])) | refine rcM [] (hO) rfl ?_ | (refine wpG_split rfl rfl (fun hc => ?_) (fun hc => ?_) <;> try simp only [hcL] at hc) | (refine pw_cond _ rfl rfl (fun hc => ?_) (fun hc => ?_) <;> (try simp only [hcL] at hc) <;> try omega) | simp (disch := omega) only [go_sem, simprocAttr, hcl] | apply And.intro | omega | decide +kernel
   exact rfl
end Go.Proofs.YthbcmebhpabpnaaDoor
namespace Go.Proofs.YthbcmebhpabpnaaDoor
open Go Go.PS Go.Proofs
open Go.Cy (NA InN inOut degO degB pickV sinkV srcV diffV bestStep bestK bestV runF greedyO)
set_option maxRecDepth 100000
attribute [local irreducible] wpRun wpG CallsTo CallsM

def inRow (n : Nat) (S : List Nat) : List D := (List.range n).map fun w => .bool (decide (w ∈ S))
theorem inRow_len (n : Nat) (S : List Nat) : (inRow n S).length = n := by simp [inRow]
theorem inRow_get {n : Nat} (S : List Nat) {i : Nat} (h : i < n) : (inRow n S)[i]? = some (.bool (decide (i ∈ S))) := by
 rw [inRow, List.getElem?_map, List.getElem?_range h]; rfl
theorem inRow_set {n : Nat} {S T : List Nat} {i : Nat} {b : Bool} (h : ∀ w, w < n → decide (w ∈ T) = if w = i then b else decide (w ∈ S)) : (inRow n S).set i (.bool b) = inRow n T := by
 refine List.ext_getElem? fun k => ?_
 rw [List.getElem?_set, inRow_len]
 rcases Nat.lt_or_ge k n with hk | hk
 ·rw [inRow_get T hk, h k hk]
  by_cases c : i = k
  ·subst c; simp [hk]
  ·rw [if_neg c, if_neg (Ne.symm c), inRow_get S hk]
 ·rw [List.getElem?_eq_none (by rw [inRow_len]; exact hk : (inRow n T).length ≤ k), List.getElem?_eq_none (by rw [inRow_len]; exact hk : (inRow n S).length ≤ k)]
  split
  ·rw [if_neg (by omega)]
  ·rfl
theorem inRow_erase {n : Nat} {S : List Nat} (hn : S.Nodup) (v : Nat) : (inRow n S).set v (.bool false) = inRow n (S.erase v) :=
 inRow_set fun w _ => by
  by_cases c : w = v
  ·rw [if_pos c]; simp [c, List.Nodup.mem_erase_iff hn]
  ·rw [if_neg c]; simp [List.Nodup.mem_erase_iff hn, c]
theorem degO_snoc (l : List NA) (S : List Nat) (a : NA) (v : Nat) : degO (l ++ [a]) S v = degO l S v + (inOut S a && decide (a.1 = v)).toNat := by
 simp only [degO, List.filter_append, List.length_append, List.filter_cons, List.filter_nil]
 cases inOut S a && decide (a.1 = v) <;> rfl
theorem degB_snoc (l : List NA) (S : List Nat) (a : NA) (v : Nat) : degB (l ++ [a]) S v = degB l S v + (inOut S a && decide (a.2 = v)).toNat := by
 simp only [degB, List.filter_append, List.length_append, List.filter_cons, List.filter_nil]
 cases inOut S a && decide (a.2 = v) <;> rfl
theorem degO_le (l : List NA) (S : List Nat) (v : Nat) : degO l S v ≤ l.length := List.length_filter_le _ _
theorem degB_le (l : List NA) (S : List Nat) (v : Nat) : degB l S v ≤ l.length := List.length_filter_le _ _
set_option maxHeartbeats 8000000 in
theorem degrees_spec (n : Nat) (l : List NA) (S : List Nat) (v : Nat) (hi : InN n l) (hll : l.length ≤ 256) :
  CallsTo Tryd.prog 39 [gD ((n : Int), castA l), .sl (inRow n S), .int v] (.tup [.int (degO l S v), .int (degB l S v)]) := by
 have hcl := castA_len l
 refine callsTo_of Tryd.func39 rfl (by decide +kernel) (Nat.le_of_ble_eq_true rfl) ?_
 intro hat B X w0
 repeat' first | refine pw_step rfl ?_ | refine pw_ret ?_ | refine wR ?_ | (refine wpG_split rfl rfl (fun hc => ?_) (fun hc => ?_) <;> try simp only [hcL] at hc) | (refine pw_cond _ rfl rfl (fun hc => ?_) (fun hc => ?_) <;> (try simp only [hcL] at hc) <;> try omega) | simp (disch := omega) only [go_sem, simprocAttr, hcl] | apply And.intro | omega | decide +kernel
 refine pw_loopI (κ := Nat) (fun (k : Nat) => k ≤ l.length) (fun (k : Nat) => [(1, .d (.sl (inRow n S))), (2, .int v), (3, .ptr 3 0 0 0), (6, .int (degO (l.take k) S v)), (7, .int (degB (l.take k) S v)), (11, .d (arcsD (castA l))), (12, .int l.length), (13, .int k)]) (fun (k : Nat) => [(3, .cells [.int n, .d (arcsD (castA l))])]) (fun (k : Nat) => l.length - k) 0 ?_ ?_ ?_
 ·exact Nat.zero_le _
 ·exact eL [] _ _ (by refine ⟨?_, ?_⟩ <;> (repeat' first | exact fmn | refine fmc ⟨(by first | rfl | (simp (disch := omega) only [go_sem, simprocAttr, inL]; first | done | omega | (congr 1; done))), ?_⟩); done)
 ·intro k hk
  rcases Nat.lt_or_ge k l.length with hlt | hge
  ·obtain ⟨a, ha⟩ := get_some hlt
   have hp := castA_get ha
   have hin := hi a (List.mem_of_getElem? ha)
   have g1 := inRow_get S hin.1
   have g2 := inRow_get S hin.2
   have hO : degO (l.take (k + 1)) S v = degO (l.take k) S v + (inOut S a && decide (a.1 = v)).toNat := by rw [take_snoc ha]; exact degO_snoc _ _ _ _
   have hB : degB (l.take (k + 1)) S v = degB (l.take k) S v + (inOut S a && decide (a.2 = v)).toNat := by rw [take_snoc ha]; exact degB_snoc _ _ _ _
   have b1 := degO_le (l.take k) S v
   have b2 := degB_le (l.take k) S v
   rw [List.length_take] at b1 b2
   by_cases d1 : a.1 = a.2
   ·have e : inOut S a = false := by simp [inOut, d1]
    rw [e] at hO hB
    have d1' : ((a.1 : Nat) : Int) = (a.2 : Nat) := by omega
    repeat' first | refine pw_step rfl ?_ | refine pw_ret ?_ | refine wR ?_ | (refine wpG_split rfl rfl (fun hc => ?_) (fun hc => ?_) <;> try simp only [hcL] at hc) | (refine pw_cond _ rfl rfl (fun hc => ?_) (fun hc => ?_) <;> (try simp only [hcL] at hc) <;> try omega) | simp (disch := omega) only [go_sem, simprocAttr, hp, hcl, d1'] | apply And.intro | omega | decide +kernel
    refine ⟨k + 1, ?_, eL [] _ _ (by refine ⟨?_, ?_⟩ <;> (repeat' first | exact fmn | refine fmc ⟨(by first | rfl | (simp (disch := omega) only [go_sem, simprocAttr, inL, hO, hB, Bool.false_and, Bool.toNat_false]; first | done | omega | (congr 1; done))), ?_⟩); done), ?_⟩
    ·omega
    ·omega
   ·have d1' : ¬ ((a.1 : Nat) : Int) = (a.2 : Nat) := by omega
    by_cases d2 : a.1 ∈ S
    ·by_cases d3 : a.2 ∈ S
     ·have e : inOut S a = true := by simp [inOut, d1, d2, d3]
      rw [decide_eq_true d2] at g1
      rw [decide_eq_true d3] at g2
      rw [e] at hO hB
      by_cases d4 : v = a.1
      ·subst d4
       have d5' : ¬ ((a.2 : Nat) : Int) = (a.1 : Nat) := by omega
       have d5 : decide (a.2 = a.1) = false := by simp; omega
       rw [d5] at hB
       rw [decide_eq_true rfl] at hO
       repeat' first | refine pw_step rfl ?_ | refine pw_ret ?_ | refine wR ?_ | (refine wpG_split rfl rfl (fun hc => ?_) (fun hc => ?_) <;> try simp only [hcL] at hc) | (refine pw_cond _ rfl rfl (fun hc => ?_) (fun hc => ?_) <;> (try simp only [hcL] at hc) <;> try omega) | simp (disch := omega) only [go_sem, simprocAttr, hp, hcl, d1', g1, g2, inRow_len, d5'] | apply And.intro | omega | decide +kernel
       refine ⟨k + 1, ?_, eL [] _ _ (by refine ⟨?_, ?_⟩ <;> (repeat' first | exact fmn | refine fmc ⟨(by first | rfl | (simp (disch := omega) only [go_sem, simprocAttr, inL, hO, hB, Bool.and_false, Bool.and_self, Bool.toNat_false, Bool.toNat_true]; first | done | omega | (congr 1; done))), ?_⟩); done), ?_⟩
       ·omega
       ·omega
      ·by_cases d5 : v = a.2
       ·subst d5
        have d4'' : decide (a.1 = a.2) = false := by simp; omega
        rw [d4''] at hO
        rw [decide_eq_true rfl] at hB
        repeat' first | refine pw_step rfl ?_ | refine pw_ret ?_ | refine wR ?_ | (refine wpG_split rfl rfl (fun hc => ?_) (fun hc => ?_) <;> try simp only [hcL] at hc) | (refine pw_cond _ rfl rfl (fun hc => ?_) (fun hc => ?_) <;> (try simp only [hcL] at hc) <;> try omega) | simp (disch := omega) only [go_sem, simprocAttr, hp, hcl, d1', g1, g2, inRow_len] | apply And.intro | omega | decide +kernel
        refine ⟨k + 1, ?_, eL [] _ _ (by refine ⟨?_, ?_⟩ <;> (repeat' first | exact fmn | refine fmc ⟨(by first | rfl | (simp (disch := omega) only [go_sem, simprocAttr, inL, hO, hB, Bool.and_false, Bool.and_self, Bool.toNat_false, Bool.toNat_true]; first | done | omega | (congr 1; done))), ?_⟩); done), ?_⟩
        ·omega
        ·omega
       ·have d4' : ¬ ((a.1 : Nat) : Int) = (v : Nat) := by omega
        have d5' : ¬ ((a.2 : Nat) : Int) = (v : Nat) := by omega
        have d4'' : decide (a.1 = v) = false := by simp; omega
        have d5'' : decide (a.2 = v) = false := by simp; omega
        rw [d4''] at hO
        rw [d5''] at hB
        repeat' first | refine pw_step rfl ?_ | refine pw_ret ?_ | refine wR ?_ | (refine wpG_split rfl rfl (fun hc => ?_) (fun hc => ?_) <;> try simp only [hcL] at hc) | (refine pw_cond _ rfl rfl (fun hc => ?_) (fun hc => ?_) <;> (try simp only [hcL] at hc) <;> try omega) | simp (disch := omega) only [go_sem, simprocAttr, hp, hcl, d1', g1, g2, inRow_len, d4', d5'] | apply And.intro | omega | decide +kernel
        refine ⟨k + 1, ?_, eL [] _ _ (by refine ⟨?_, ?_⟩ <;> (repeat' first | exact fmn | refine fmc ⟨(by first | rfl | (simp (disch := omega) only [go_sem, simprocAttr, inL, hO, hB, Bool.and_false, Bool.toNat_false]; first | done | omega | (congr 1; done))), ?_⟩); done), ?_⟩
        ·omega
        ·omega
     ·have e : inOut S a = false := by simp [inOut, d3]
      rw [decide_eq_true d2] at g1
      rw [decide_eq_false d3] at g2
      rw [e] at hO hB
      repeat' first | refine pw_step rfl ?_ | refine pw_ret ?_ | refine wR ?_ | (refine wpG_split rfl rfl (fun hc => ?_) (fun hc => ?_) <;> try simp only [hcL] at hc) | (refine pw_cond _ rfl rfl (fun hc => ?_) (fun hc => ?_) <;> (try simp only [hcL] at hc) <;> try omega) | simp (disch := omega) only [go_sem, simprocAttr, hp, hcl, d1', g1, g2, inRow_len] | apply And.intro | omega | decide +kernel
      refine ⟨k + 1, ?_, eL [] _ _ (by refine ⟨?_, ?_⟩ <;> (repeat' first | exact fmn | refine fmc ⟨(by first | rfl | (simp (disch := omega) only [go_sem, simprocAttr, inL, hO, hB, Bool.false_and, Bool.toNat_false]; first | done | omega | (congr 1; done))), ?_⟩); done), ?_⟩
      ·omega
      ·omega
    ·have e : inOut S a = false := by simp [inOut, d2]
     rw [decide_eq_false d2] at g1
     rw [e] at hO hB
     repeat' first | refine pw_step rfl ?_ | refine pw_ret ?_ | refine wR ?_ | (refine wpG_split rfl rfl (fun hc => ?_) (fun hc => ?_) <;> try simp only [hcL] at hc) | (refine pw_cond _ rfl rfl (fun hc => ?_) (fun hc => ?_) <;> (try simp only [hcL] at hc) <;> try omega) | simp (disch := omega) only [go_sem, simprocAttr, hp, hcl, d1', g1, inRow_len] | apply And.intro | omega | decide +kernel
     refine ⟨k + 1, ?_, eL [] _ _ (by refine ⟨?_, ?_⟩ <;> (repeat' first | exact fmn | refine fmc ⟨(by first | rfl | (simp (disch := omega) only [go_sem, simprocAttr, inL, hO, hB, Bool.false_and, Bool.toNat_false]; first | done | omega | (congr 1; done))), ?_⟩); done), ?_⟩
     ·omega
     ·omega
  ·have hk : k = l.length := by omega
   subst hk
   rw [List.take_length]
   repeat' first | refine pw_step rfl ?_ | refine pw_ret ?_ | refine wR ?_ | (refine wpG_split rfl rfl (fun hc => ?_) (fun hc => ?_) <;> try simp only [hcL] at hc) | (refine pw_cond _ rfl rfl (fun hc => ?_) (fun hc => ?_) <;> (try simp only [hcL] at hc) <;> try omega) | simp (disch := omega) only [go_sem, simprocAttr, hcl] | apply And.intro | omega | decide +kernel
   exact ⟨_, rfl, rfl, rfl, trivial⟩
end Go.Proofs.YthbcmebhpabpnaaDoor
