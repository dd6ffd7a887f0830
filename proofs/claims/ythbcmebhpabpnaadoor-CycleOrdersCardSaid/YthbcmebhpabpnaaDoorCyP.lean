/- The reference: degrees, picked vertices, the greedy order, Greedy. -/
import Derived.Test.YthbcmebhpabpnaaDoorCyJ
import Derived.Test.YthbcmebhpabpnaaDoorPSCy3
set_option linter.unusedSimpArgs false
set_option linter.unusedVariables false
namespace Go.Proofs.YthbcmebhpabpnaaDoor
open Go Go.PS Go.Proofs
open Go.Cy (NA InN inOut degO degB pickV sinkV srcV diffV bestStep bestK bestV runF greedyO bwd backL)
set_option maxRecDepth 100000
attribute [local irreducible] wpRun wpG CallsTo CallsM

set_option maxHeartbeats 8000000 in
theorem rdegrees_spec (n : Nat) (l : List NA) (S : List Nat) (v : Nat) (hi : InN n l) (hll : l.length ≤ 256) (hvS : v ∈ S) :
  CallsTo Tryd.prog 49 [gD ((n : Int), castA l), .sl (inRow n S), .int v] (.tup [.int (degO l S v), .int (degB l S v)]) := by
 have hcl := castA_len l
 refine callsTo_of Tryd.func49 rfl (by decide +kernel) (Nat.le_of_ble_eq_true rfl) ?_
 intro hat B X w0
 repeat' first | refine pw_step rfl ?_ | refine pw_ret ?_ | refine wR ?_ | (refine wpG_split rfl rfl (fun hc => ?_) (fun hc => ?_) <;> try simp only [hcL] at hc) | (refine pw_cond _ rfl rfl (fun hc => ?_) (fun hc => ?_) <;> (try simp only [hcL] at hc) <;> try omega) | simp (disch := omega) only [go_sem, simprocAttr, hcl] | apply And.intro | omega | decide +kernel
 refine pw_loopI (κ := Nat) (fun (k : Nat) => k ≤ l.length) (fun (k : Nat) => [(1, .d (.sl (inRow n S))), (2, .int v), (3, .ptr 3 0 0 0), (8, .int (degO (l.take k) S v)), (9, .int (degB (l.take k) S v)), (10, .int k)]) (fun (k : Nat) => [(3, .cells [.int n, .d (arcsD (castA l))])]) (fun (k : Nat) => l.length - k) 0 ?_ ?_ ?_
 ·exact Nat.zero_le _
 ·exact eL [] _ _ (by refine ⟨?_, ?_⟩ <;> (repeat' first | exact fmn | refine fmc ⟨(by first | rfl | (simp (disch := omega) only [go_sem, simprocAttr, inL]; first | done | omega | (congr 1; done))), ?_⟩); done)
 ·intro k hk
  rcases Nat.lt_or_ge k l.length with hlt | hge
  ·obtain ⟨a, ha⟩ := get_some hlt
   have hp := castA_get ha
   have hin := hi a (List.mem_of_getElem? ha)
   have g1 := inRow_get S hin.1
   have g2 := inRow_get S hin.2
   have hO : degO (l.take (k + 1)) S v = degO (l.take k) S v + (inOut S a && decide (a.1 = v)).toNat := by rw [take_snoc ha]; exact degO_snoc _ _ _ _
   have hB : degB (l.take (k + 1)) S v = degB (l.take k) S v + (inOut S a && decide (a.2 = v)).toNat := by rw [take_snoc ha]; exact degB_snoc _ _ _ _
   have b1 := degO_le (l.take k) S v
   have b2 := degB_le (l.take k) S v
   rw [List.length_take] at b1 b2
   by_cases d4 : v = a.1
   ·subst d4
    rw [decide_eq_true hvS] at g1
    by_cases d1 : a.1 = a.2
    ·have e : inOut S a = false := by simp [inOut, d1]
     rw [e] at hO hB
     have d1' : ((a.2 : Nat) : Int) = (a.1 : Nat) := by omega
     repeat' first | refine pw_step rfl ?_ | refine pw_ret ?_ | refine wR ?_ | (refine wpG_split rfl rfl (fun hc => ?_) (fun hc => ?_) <;> try simp only [hcL] at hc) | (refine pw_cond _ rfl rfl (fun hc => ?_) (fun hc => ?_) <;> (try simp only [hcL] at hc) <;> try omega) | simp (disch := omega) only [go_sem, simprocAttr, hp, hcl, d1'] | apply And.intro | omega | decide +kernel
     refine ⟨k + 1, ?_, eL [] _ _ (by refine ⟨?_, ?_⟩ <;> (repeat' first | exact fmn | refine fmc ⟨(by first | rfl | (simp (disch := omega) only [go_sem, simprocAttr, inL, hO, hB, Bool.false_and, Bool.toNat_false]; first | done | omega | (congr 1; done))), ?_⟩); done), ?_⟩
     ·omega
     ·omega
    ·have d1' : ¬ ((a.2 : Nat) : Int) = (a.1 : Nat) := by omega
     have d5 : decide (a.2 = a.1) = false := by simp; omega
     rw [d5] at hB
     rw [decide_eq_true rfl] at hO
     by_cases d3 : a.2 ∈ S
     ·have e : inOut S a = true := by simp [inOut, d1, hvS, d3]
      rw [e] at hO hB
      rw [decide_eq_true d3] at g2
      repeat' first | refine pw_step rfl ?_ | refine pw_ret ?_ | refine wR ?_ | (refine wpG_split rfl rfl (fun hc => ?_) (fun hc => ?_) <;> try simp only [hcL] at hc) | (refine pw_cond _ rfl rfl (fun hc => ?_) (fun hc => ?_) <;> (try simp only [hcL] at hc) <;> try omega) | simp (disch := omega) only [go_sem, simprocAttr, hp, hcl, d1', g2, inRow_len] | apply And.intro | omega | decide +kernel
      refine ⟨k + 1, ?_, eL [] _ _ (by refine ⟨?_, ?_⟩ <;> (repeat' first | exact fmn | refine fmc ⟨(by first | rfl | (simp (disch := omega) only [go_sem, simprocAttr, inL, hO, hB, Bool.and_false, Bool.and_self, Bool.toNat_false, Bool.toNat_true]; first | done | omega | (congr 1; done))), ?_⟩); done), ?_⟩
      ·omega
      ·omega
     ·have e : inOut S a = false := by simp [inOut, d3]
      rw [e] at hO hB
      rw [decide_eq_false d3] at g2
      repeat' first | refine pw_step rfl ?_ | refine pw_ret ?_ | refine wR ?_ | (refine wpG_split rfl rfl (fun hc => ?_) (fun hc => ?_) <;> try simp only [hcL] at hc) | (refine pw_cond _ rfl rfl (fun hc => ?_) (fun hc => ?_) <;> (try simp only [hcL] at hc) <;> try omega) | simp (disch := omega) only [go_sem, simprocAttr, hp, hcl, d1', g2, inRow_len] | apply And.intro | omega | decide +kernel
      refine ⟨k + 1, ?_, eL [] _ _ (by refine ⟨?_, ?_⟩ <;> (repeat' first | exact fmn | refine fmc ⟨(by first | rfl | (simp (disch := omega) only [go_sem, simprocAttr, inL, hO, hB, Bool.false_and, Bool.toNat_false]; first | done | omega | (congr 1; done))), ?_⟩); done), ?_⟩
      ·omega
      ·omega
   ·have d4' : ¬ ((a.1 : Nat) : Int) = (v : Nat) := by omega
    have d4'' : decide (a.1 = v) = false := by simp; omega
    rw [d4'', Bool.and_false, Bool.toNat_false] at hO
    by_cases d5 : v = a.2
    ·subst d5
     rw [decide_eq_true rfl] at hB
     by_cases d3 : a.1 ∈ S
     ·have e : inOut S a = true := by
       simp only [inOut, Bool.and_eq_true, Bool.not_eq_true', decide_eq_false_iff_not, decide_eq_true_eq]
       exact ⟨by omega, d3, hvS⟩
      rw [e] at hB
      rw [decide_eq_true d3] at g1
      repeat' first | refine pw_step rfl ?_ | refine pw_ret ?_ | refine wR ?_ | (refine wpG_split rfl rfl (fun hc => ?_) (fun hc => ?_) <;> try simp only [hcL] at hc) | (refine pw_cond _ rfl rfl (fun hc => ?_) (fun hc => ?_) <;> (try simp only [hcL] at hc) <;> try omega) | simp (disch := omega) only [go_sem, simprocAttr, hp, hcl, d4', g1, inRow_len] | apply And.intro | omega | decide +kernel
      refine ⟨k + 1, ?_, eL [] _ _ (by refine ⟨?_, ?_⟩ <;> (repeat' first | exact fmn | refine fmc ⟨(by first | rfl | (simp (disch := omega) only [go_sem, simprocAttr, inL, hO, hB, Bool.and_self, Bool.toNat_true, Nat.add_zero]; first | done | omega | (congr 1; done))), ?_⟩); done), ?_⟩
      ·omega
      ·omega
     ·have e : inOut S a = false := by simp [inOut, d3]
      rw [e] at hB
      rw [decide_eq_false d3] at g1
      repeat' first | refine pw_step rfl ?_ | refine pw_ret ?_ | refine wR ?_ | (refine wpG_split rfl rfl (fun hc => ?_) (fun hc => ?_) <;> try simp only [hcL] at hc) | (refine pw_cond _ rfl rfl (fun hc => ?_) (fun hc => ?_) <;> (try simp only [hcL] at hc) <;> try omega) | simp (disch := omega) only [go_sem, simprocAttr, hp, hcl, d4', g1, inRow_len] | apply And.intro | omega | decide +kernel
      refine ⟨k + 1, ?_, eL [] _ _ (by refine ⟨?_, ?_⟩ <;> (repeat' first | exact fmn | refine fmc ⟨(by first | rfl | (simp (disch := omega) only [go_sem, simprocAttr, inL, hO, hB, Bool.false_and, Bool.toNat_false, Nat.add_zero]; first | done | omega | (congr 1; done))), ?_⟩); done), ?_⟩
      ·omega
      ·omega
    ·have d5' : ¬ ((a.2 : Nat) : Int) = (v : Nat) := by omega
     have d5'' : decide (a.2 = v) = false := by simp; omega
     rw [d5'', Bool.and_false, Bool.toNat_false] at hB
     repeat' first | refine pw_step rfl ?_ | refine pw_ret ?_ | refine wR ?_ | (refine wpG_split rfl rfl (fun hc => ?_) (fun hc => ?_) <;> try simp only [hcL] at hc) | (refine pw_cond _ rfl rfl (fun hc => ?_) (fun hc => ?_) <;> (try simp only [hcL] at hc) <;> try omega) | simp (disch := omega) only [go_sem, simprocAttr, hp, hcl, d4', d5'] | apply And.intro | omega | decide +kernel
     refine ⟨k + 1, ?_, eL [] _ _ (by refine ⟨?_, ?_⟩ <;> (repeat' first | exact fmn | refine fmc ⟨(by first | rfl | (simp (disch := omega) only [go_sem, simprocAttr, inL, hO, hB, Nat.add_zero]; first | done | omega | (congr 1; done))), ?_⟩); done), ?_⟩
     ·omega
     ·omega
  ·have hk : k = l.length := by omega
   subst hk
   rw [List.take_length]
   repeat' first | refine pw_step rfl ?_ | refine pw_ret ?_ | refine wR ?_ | (refine wpG_split rfl rfl (fun hc => ?_) (fun hc => ?_) <;> try simp only [hcL] at hc) | (refine pw_cond _ rfl rfl (fun hc => ?_) (fun hc => ?_) <;> (try simp only [hcL] at hc) <;> try omega) | simp (disch := omega) only [go_sem, simprocAttr, hcl] | apply And.intro | omega | decide +kernel
   exact ⟨_, rfl, rfl, rfl, trivial⟩
set_option maxHeartbeats 4000000 in
theorem rpick0 (n : Nat) (l : List NA) (S : List Nat) (hi : InN n l) (hn : n ≤ 64) (hll : l.length ≤ 256) : CallsTo Tryd.prog 43 [gD ((n : Int), castA l), .sl (inRow n S), .int 0] (.int (optI (sinkV n l S))) := by
 refine callsTo_of Tryd.func43 rfl (by decide +kernel) (Nat.le_of_ble_eq_true rfl) ?_
 intro hat B X w0
 repeat' first | refine pw_step rfl ?_ | refine pw_ret ?_ | refine wR ?_ | (refine wpG_split rfl rfl (fun hc => ?_) (fun hc => ?_) <;> try simp only [hcL] at hc) | (refine pw_cond _ rfl rfl (fun hc => ?_) (fun hc => ?_) <;> (try simp only [hcL] at hc) <;> try omega) | simp (disch := omega) only [go_sem, simprocAttr] | apply And.intro | omega | decide +kernel
 refine pw_loopI (κ := Nat) (fun (k : Nat) => k ≤ n ∧ pickV k S (fun v => decide (degO l S v = 0)) = none) (fun (k : Nat) => [(1, .d (.sl (inRow n S))), (2, .int 0), (3, .ptr 3 0 0 0), (7, .int (-1)), (8, .int 0), (9, .int k)]) (fun (k : Nat) => [(3, .cells [.int n, .d (arcsD (castA l))])]) (fun (k : Nat) => n - k) 0 ?_ ?_ ?_
 ·exact ⟨Nat.zero_le _, rfl⟩
 ·exact eL [] _ _ (by refine ⟨?_, ?_⟩ <;> (repeat' first | exact fmn | refine fmc ⟨(by first | rfl | (simp (disch := omega) only [go_sem, simprocAttr, inL]; first | done | omega | (congr 1; done))), ?_⟩); done)
 ·rintro k ⟨hk, hinv⟩
  rcases Nat.lt_or_ge k n with hlt | hge
  ·have hg := inRow_get S hlt
   by_cases c1 : k ∈ S
   ·rw [decide_eq_true c1] at hg
    have hd := rdegrees_spec n l S k hi hll c1
    by_cases c2 : degO l S k = 0
    ·have e : sinkV n l S = some k := pick_at S _ hlt hinv (by simp [c1, c2])
     rw [e]
     have c2' : ((degO l S k : Nat) : Int) = 0 := by omega
     repeat' first | refine pw_step rfl ?_ | refine pw_ret ?_ | refine wR ?_ | (refine rc (hd) rfl ?_ ?_; (· first | rfl | simp (disch := omega) only [go_sem, simprocAttr, hg, inRow_len, c2'])) | (refine wpG_split rfl rfl (fun hc => ?_) (fun hc => ?_) <;> try simp only [hcL] at hc) | (refine pw_cond _ rfl rfl (fun hc => ?_) (fun hc => ?_) <;> (try simp only [hcL] at hc) <;> try omega) | simp (disch := omega) only [go_sem, simprocAttr, hg, inRow_len, c2'] | apply And.intro | omega | decide +kernel
     exact rfl
    ·have c2' : ¬ ((degO l S k : Nat) : Int) = 0 := by omega
     repeat' first | refine pw_step rfl ?_ | refine pw_ret ?_ | refine wR ?_ | (refine rc (hd) rfl ?_ ?_; (· first | rfl | simp (disch := omega) only [go_sem, simprocAttr, hg, inRow_len, c2'])) | (refine wpG_split rfl rfl (fun hc => ?_) (fun hc => ?_) <;> try simp only [hcL] at hc) | (refine pw_cond _ rfl rfl (fun hc => ?_) (fun hc => ?_) <;> (try simp only [hcL] at hc) <;> try omega) | simp (disch := omega) only [go_sem, simprocAttr, hg, inRow_len, c2'] | apply And.intro | omega | decide +kernel
     refine ⟨k + 1, ?_, eL [] _ _ (by refine ⟨?_, ?_⟩ <;> (repeat' first | exact fmn | refine fmc ⟨(by first | rfl | (simp (disch := omega) only [go_sem, simprocAttr, inL]; first | done | omega | (congr 1; done))), ?_⟩); done), ?_⟩
     ·exact ⟨by omega, pick_succ S _ hinv (by simp [c2])⟩
     ·omega
   ·rw [decide_eq_false c1] at hg
    repeat' first | refine pw_step rfl ?_ | refine pw_ret ?_ | refine wR ?_ | (refine wpG_split rfl rfl (fun hc => ?_) (fun hc => ?_) <;> try simp only [hcL] at hc) | (refine pw_cond _ rfl rfl (fun hc => ?_) (fun hc => ?_) <;> (try simp only [hcL] at hc) <;> try omega) | simp (disch := omega) only [go_sem, simprocAttr, hg, inRow_len] | apply And.intro | omega | decide +kernel
    refine ⟨k + 1, ?_, eL [] _ _ (by refine ⟨?_, ?_⟩ <;> (repeat' first | exact fmn | refine fmc ⟨(by first | rfl | (simp (disch := omega) only [go_sem, simprocAttr, inL]; first | done | omega | (congr 1; done))), ?_⟩); done), ?_⟩
    ·exact ⟨by omega, pick_succ S _ hinv (by rw [decide_eq_false c1]; rfl)⟩
    ·omega
  ·have hk : n = k := by omega
   subst hk
   have e : sinkV n l S = none := hinv
   rw [e]
   repeat' first | refine pw_step rfl ?_ | refine pw_ret ?_ | refine wR ?_ | (refine wpG_split rfl rfl (fun hc => ?_) (fun hc => ?_) <;> try simp only [hcL] at hc) | (refine pw_cond _ rfl rfl (fun hc => ?_) (fun hc => ?_) <;> (try simp only [hcL] at hc) <;> try omega) | simp (disch := omega) only [go_sem, simprocAttr] | apply And.intro | omega | decide +kernel
   exact rfl
set_option maxHeartbeats 4000000 in
theorem rpick1 (n : Nat) (l : List NA) (S : List Nat) (hi : InN n l) (hn : n ≤ 64) (hll : l.length ≤ 256) : CallsTo Tryd.prog 43 [gD ((n : Int), castA l), .sl (inRow n S), .int 1] (.int (optI (srcV n l S))) := by
 refine callsTo_of Tryd.func43 rfl (by decide +kernel) (Nat.le_of_ble_eq_true rfl) ?_
 intro hat B X w0
 repeat' first | refine pw_step rfl ?_ | refine pw_ret ?_ | refine wR ?_ | (refine wpG_split rfl rfl (fun hc => ?_) (fun hc => ?_) <;> try simp only [hcL] at hc) | (refine pw_cond _ rfl rfl (fun hc => ?_) (fun hc => ?_) <;> (try simp only [hcL] at hc) <;> try omega) | simp (disch := omega) only [go_sem, simprocAttr] | apply And.intro | omega | decide +kernel
 refine pw_loopI (κ := Nat) (fun (k : Nat) => k ≤ n ∧ pickV k S (fun v => decide (degB l S v = 0)) = none) (fun (k : Nat) => [(1, .d (.sl (inRow n S))), (2, .int 1), (3, .ptr 3 0 0 0), (7, .int (-1)), (8, .int 0), (9, .int k)]) (fun (k : Nat) => [(3, .cells [.int n, .d (arcsD (castA l))])]) (fun (k : Nat) => n - k) 0 ?_ ?_ ?_
 ·exact ⟨Nat.zero_le _, rfl⟩
 ·exact eL [] _ _ (by refine ⟨?_, ?_⟩ <;> (repeat' first | exact fmn | refine fmc ⟨(by first | rfl | (simp (disch := omega) only [go_sem, simprocAttr, inL]; first | done | omega | (congr 1; done))), ?_⟩); done)
 ·rintro k ⟨hk, hinv⟩
  rcases Nat.lt_or_ge k n with hlt | hge
  ·have hg := inRow_get S hlt
   by_cases c1 : k ∈ S
   ·rw [decide_eq_true c1] at hg
    have hd := rdegrees_spec n l S k hi hll c1
    by_cases c2 : degB l S k = 0
    ·have e : srcV n l S = some k := pick_at S _ hlt hinv (by simp [c1, c2])
     rw [e]
     have c2' : ((degB l S k : Nat) : Int) = 0 := by omega
     repeat' first | refine pw_step rfl ?_ | refine pw_ret ?_ | refine wR ?_ | (refine rc (hd) rfl ?_ ?_; (· first | rfl | simp (disch := omega) only [go_sem, simprocAttr, hg, inRow_len, c2'])) | (refine wpG_split rfl rfl (fun hc => ?_) (fun hc => ?_) <;> try simp only [hcL] at hc) | (refine pw_cond _ rfl rfl (fun hc => ?_) (fun hc => ?_) <;> (try simp only [hcL] at hc) <;> try omega) | simp (disch := omega) only [go_sem, simprocAttr, hg, inRow_len, c2'] | apply And.intro | omega | decide +kernel
     exact rfl
    ·have c2' : ¬ ((degB l S k : Nat) : Int) = 0 := by omega
     repeat' first | refine pw_step rfl ?_ | refine pw_ret ?_ | refine wR ?_ | (refine rc (hd) rfl ?_ ?_; (· first | rfl | simp (disch := omega) only [go_sem, simprocAttr, hg, inRow_len, c2'])) | (refine wpG_split rfl rfl (fun hc => ?_) (fun hc => ?_) <;> try simp only [hcL] at hc) | (refine pw_cond _ rfl rfl (fun hc => ?_) (fun hc => ?_) <;> (try simp only [hcL] at hc) <;> try omega) | simp (disch := omega) only [go_sem, simprocAttr, hg, inRow_len, c2'] | apply And.intro | omega | decide +kernel
     refine ⟨k + 1, ?_, eL [] _ _ (by refine ⟨?_, ?_⟩ <;> (repeat' first | exact fmn | refine fmc ⟨(by first | rfl | (simp (disch := omega) only [go_sem, simprocAttr, inL]; first | done | omega | (congr 1; done))), ?_⟩); done), ?_⟩
     ·exact ⟨by omega, pick_succ S _ hinv (by simp [c2])⟩
     ·omega
   ·rw [decide_eq_false c1] at hg
    repeat' first | refine pw_step rfl ?_ | refine pw_ret ?_ | refine wR ?_ | (refine wpG_split rfl rfl (fun hc => ?_) (fun hc => ?_) <;> try simp only [hcL] at hc) | (refine pw_cond _ rfl rfl (fun hc => ?_) (fun hc => ?_) <;> (try simp only [hcL] at hc) <;> try omega) | simp (disch := omega) only [go_sem, simprocAttr, hg, inRow_len] | apply And.intro | omega | decide +kernel
    refine ⟨k + 1, ?_, eL [] _ _ (by refine ⟨?_, ?_⟩ <;> (repeat' first | exact fmn | refine fmc ⟨(by first | rfl | (simp (disch := omega) only [go_sem, simprocAttr, inL]; first | done | omega | (congr 1; done))), ?_⟩); done), ?_⟩
    ·exact ⟨by omega, pick_succ S _ hinv (by rw [decide_eq_false c1]; rfl)⟩
    ·omega
  ·have hk : n = k := by omega
   subst hk
   have e : srcV n l S = none := hinv
   rw [e]
   repeat' first | refine pw_step rfl ?_ | refine pw_ret ?_ | refine wR ?_ | (refine wpG_split rfl rfl (fun hc => ?_) (fun hc => ?_) <;> try simp only [hcL] at hc) | (refine pw_cond _ rfl rfl (fun hc => ?_) (fun hc => ?_) <;> (try simp only [hcL] at hc) <;> try omega) | simp (disch := omega) only [go_sem, simprocAttr] | apply And.intro | omega | decide +kernel
   exact rfl
set_option maxHeartbeats 8000000 in
theorem rpick2 (n : Nat) (l : List NA) (S : List Nat) (hi : InN n l) (hn : n ≤ 64) (hll : l.length ≤ 256) : CallsTo Tryd.prog 43 [gD ((n : Int), castA l), .sl (inRow n S), .int 2] (.int (optI (bestV n l S))) := by
 refine callsTo_of Tryd.func43 rfl (by decide +kernel) (Nat.le_of_ble_eq_true rfl) ?_
 intro hat B X w0
 repeat' first | refine pw_step rfl ?_ | refine pw_ret ?_ | refine wR ?_ | (refine wpG_split rfl rfl (fun hc => ?_) (fun hc => ?_) <;> try simp only [hcL] at hc) | (refine pw_cond _ rfl rfl (fun hc => ?_) (fun hc => ?_) <;> (try simp only [hcL] at hc) <;> try omega) | simp (disch := omega) only [go_sem, simprocAttr] | apply And.intro | omega | decide +kernel
 refine pw_loopI (κ := Nat) (fun (k : Nat) => k ≤ n) (fun (k : Nat) => [(1, .d (.sl (inRow n S))), (2, .int 2), (3, .ptr 3 0 0 0), (7, .int (optI (bestK l S k))), (8, .int (mostI l S (bestK l S k))), (9, .int k)]) (fun (k : Nat) => [(3, .cells [.int n, .d (arcsD (castA l))])]) (fun (k : Nat) => n - k) 0 ?_ ?_ ?_
 ·exact Nat.zero_le _
 ·exact eL [] _ _ (by refine ⟨?_, ?_⟩ <;> (repeat' first | exact fmn | refine fmc ⟨(by first | rfl | (simp (disch := omega) only [go_sem, simprocAttr, inL]; first | done | omega | (congr 1; done))), ?_⟩); done)
 ·intro k hk
  rcases Nat.lt_or_ge k n with hlt | hge
  ·have hg := inRow_get S hlt
   have hsuc := Go.Cy.bestK_succ l S k
   unfold bestStep at hsuc
   by_cases c1 : k ∈ S
   ·rw [decide_eq_true c1] at hg
    rw [if_pos c1] at hsuc
    have hd := rdegrees_spec n l S k hi hll c1
    have bj := diff_bd l S k hll
    have ed : ((degO l S k : Nat) : Int) - (degB l S k : Nat) = diffV l S k := rfl
    rcases hbk : bestK l S k with _ | b
    ·rw [hbk] at hsuc
     dsimp only at hsuc
     have e1 : optI none = -1 := rfl
     have e2 : mostI l S none = 0 := rfl
     rw [e1, e2]
     repeat' first | refine pw_step rfl ?_ | refine pw_ret ?_ | refine wR ?_ | (refine rc (hd) rfl ?_ ?_; (· first | rfl | simp (disch := omega) only [go_sem, simprocAttr, hg, inRow_len, ed])) | (refine wpG_split rfl rfl (fun hc => ?_) (fun hc => ?_) <;> try simp only [hcL] at hc) | (refine pw_cond _ rfl rfl (fun hc => ?_) (fun hc => ?_) <;> (try simp only [hcL] at hc) <;> try omega) | simp (disch := omega) only [go_sem, simprocAttr, hg, inRow_len, ed] | apply And.intro | omega | decide +kernel
     refine ⟨k + 1, ?_, eL [] _ _ (by refine ⟨?_, ?_⟩ <;> (repeat' first | exact fmn | refine fmc ⟨(by first | rfl | (simp (disch := omega) only [go_sem, simprocAttr, inL, hsuc, optI, mostI]; first | done | omega | (congr 1; done))), ?_⟩); done), ?_⟩
     ·omega
     ·omega
    ·rw [hbk] at hsuc
     dsimp only at hsuc
     have e1 : optI (some b) = (b : Int) := rfl
     have e2 : mostI l S (some b) = diffV l S b := rfl
     rw [e1, e2]
     by_cases c2 : diffV l S b < diffV l S k
     ·rw [if_pos c2] at hsuc
      repeat' first | refine pw_step rfl ?_ | refine pw_ret ?_ | refine wR ?_ | (refine rc (hd) rfl ?_ ?_; (· first | rfl | simp (disch := omega) only [go_sem, simprocAttr, hg, inRow_len, ed, c2])) | (refine wpG_split rfl rfl (fun hc => ?_) (fun hc => ?_) <;> try simp only [hcL] at hc) | (refine pw_cond _ rfl rfl (fun hc => ?_) (fun hc => ?_) <;> (try simp only [hcL] at hc) <;> try omega) | simp (disch := omega) only [go_sem, simprocAttr, hg, inRow_len, ed, c2] | apply And.intro | omega | decide +kernel
      refine ⟨k + 1, ?_, eL [] _ _ (by refine ⟨?_, ?_⟩ <;> (repeat' first | exact fmn | refine fmc ⟨(by first | rfl | (simp (disch := omega) only [go_sem, simprocAttr, inL, hsuc, optI, mostI]; first | done | omega | (congr 1; done))), ?_⟩); done), ?_⟩
      ·omega
      ·omega
     ·rw [if_neg c2] at hsuc
      repeat' first | refine pw_step rfl ?_ | refine pw_ret ?_ | refine wR ?_ | (refine rc (hd) rfl ?_ ?_; (· first | rfl | simp (disch := omega) only [go_sem, simprocAttr, hg, inRow_len, ed, c2])) | (refine wpG_split rfl rfl (fun hc => ?_) (fun hc => ?_) <;> try simp only [hcL] at hc) | (refine pw_cond _ rfl rfl (fun hc => ?_) (fun hc => ?_) <;> (try simp only [hcL] at hc) <;> try omega) | simp (disch := omega) only [go_sem, simprocAttr, hg, inRow_len, ed, c2] | apply And.intro | omega | decide +kernel
      refine ⟨k + 1, ?_, eL [] _ _ (by refine ⟨?_, ?_⟩ <;> (repeat' first | exact fmn | refine fmc ⟨(by first | rfl | (simp (disch := omega) only [go_sem, simprocAttr, inL, hsuc, optI, mostI]; first | done | omega | (congr 1; done))), ?_⟩); done), ?_⟩
      ·omega
      ·omega
   ·rw [decide_eq_false c1] at hg
    rw [if_neg c1] at hsuc
    repeat' first | refine pw_step rfl ?_ | refine pw_ret ?_ | refine wR ?_ | (refine wpG_split rfl rfl (fun hc => ?_) (fun hc => ?_) <;> try simp only [hcL] at hc) | (refine pw_cond _ rfl rfl (fun hc => ?_) (fun hc => ?_) <;> (try simp only [hcL] at hc) <;> try omega) | simp (disch := omega) only [go_sem, simprocAttr, hg, inRow_len] | apply And.intro | omega | decide +kernel
    refine ⟨k + 1, ?_, eL [] _ _ (by refine ⟨?_, ?_⟩ <;> (repeat' first | exact fmn | refine fmc ⟨(by first | rfl | (simp (disch := omega) only [go_sem, simprocAttr, inL, hsuc]; first | done | omega | (congr 1; done))), ?_⟩); done), ?_⟩
    ·omega
    ·omega
  ·have hk : n = k := by omega
   subst hk
   repeat' first | refine pw_step rfl ?_ | refine pw_ret ?_ | refine wR ?_ | (refine wpG_split rfl rfl (fun hc => ?_) (fun hc => ?_) <;> try simp only [hcL] at hc) | (refine pw_cond _ rfl rfl (fun hc => ?_) (fun hc => ?_) <;> (try simp only [hcL] at hc) <;> try omega) | simp (disch := omega) only [go_sem, simprocAttr] | apply And.intro | omega | decide +kernel
   exact rfl
set_option maxHeartbeats 32000000 in
theorem rOrder_spec (n : Nat) (l : List NA) (hi : InN n l) (hn : n ≤ 64) (hll : l.length ≤ 256) : CallsTo Tryd.prog 29 [gD ((n : Int), castA l)] (natsD (greedyO n l)) := by
 obtain ⟨R, hR⟩ : ∃ R, R = greedyO n l := ⟨_, rfl⟩
 rw [← hR]
 rw [greedyO] at hR
 have hopt : optI none = -1 := rfl
 refine callsTo_of Tryd.func29 rfl (by decide +kernel) (Nat.le_of_ble_eq_true rfl) ?_
 intro hat B X w0
 repeat' first | refine pw_step rfl ?_ | refine pw_ret ?_ | refine wR ?_ | (refine wpG_split rfl rfl (fun hc => ?_) (fun hc => ?_) <;> try simp only [hcL] at hc) | (refine pw_cond _ rfl rfl (fun hc => ?_) (fun hc => ?_) <;> (try simp only [hcL] at hc) <;> try omega) | simp (disch := omega) only [go_sem, simprocAttr] | apply And.intro | omega | decide +kernel
 refine pw_loopI (κ := Nat) (fun (k : Nat) => k ≤ n) (fun (k : Nat) => [(1, .ptr 1 0 0 0), (3, .ref 900 1 0 n n), (4, .int k)]) (fun (k : Nat) => [(1, .cells [.int n, .d (arcsD (castA l))]), (900, .row 1 (inRow n (List.range k)))]) (fun (k : Nat) => n - k) 0 ?_ ?_ ?_
 ·exact Nat.zero_le _
 ·exact eL [(900, 10)] _ _ (by refine ⟨?_, ?_⟩ <;> (repeat' first | exact fmn | refine fmc ⟨(by first | rfl | (simp (disch := omega) only [go_sem, simprocAttr, inL, inRow_rep]; first | done | omega | (congr 1; done))), ?_⟩); done)
 ·intro k hk
  rcases Nat.lt_or_ge k n with hlt | hge
  ·have hg := inRow_get (List.range k) hlt
   have hs := inRow_all n k hlt
   repeat' first | refine pw_step rfl ?_ | refine pw_ret ?_ | refine wR ?_ | (refine wpG_split rfl rfl (fun hc => ?_) (fun hc => ?_) <;> try simp only [hcL] at hc) | (refine pw_cond _ rfl rfl (fun hc => ?_) (fun hc => ?_) <;> (try simp only [hcL] at hc) <;> try omega) | simp (disch := omega) only [go_sem, simprocAttr, inRow_len, hg, hs] | apply And.intro | omega | decide +kernel
   refine ⟨k + 1, ?_, eL [] _ _ (by refine ⟨?_, ?_⟩ <;> (repeat' first | exact fmn | refine fmc ⟨(by first | rfl | (simp (disch := omega) only [go_sem, simprocAttr, inL]; first | done | omega | (congr 1; done))), ?_⟩); done), ?_⟩
   ·omega
   ·omega
  ·have hk : n = k := by omega
   subst hk
   repeat' first | refine pw_step rfl ?_ | refine pw_ret ?_ | refine pw_region (fun s => (Nat.beq 20 s).or (Nat.beq 21 s)) hmix ?_ | (refine wpG_split rfl rfl (fun hc => ?_) (fun hc => ?_) <;> try simp only [hcL] at hc) | (refine pw_cond _ rfl rfl (fun hc => ?_) (fun hc => ?_) <;> (try simp only [hcL] at hc) <;> try omega) | simp (disch := omega) only [go_sem, simprocAttr] | apply And.intro | omega | decide +kernel
   refine pw_loopI (κ := List Nat × List Nat × List Nat × Nat) (fun (q : List Nat × List Nat × List Nat × Nat) => match q with | (S, f, s, m) => S.Nodup ∧ (∀ v, v ∈ S → v < n) ∧ f.length + s.length + S.length = n ∧ 4 * S.length + 4 ≤ m ∧ R = runF n l m 0 S f s) (fun (q : List Nat × List Nat × List Nat × Nat) => match q with | (S, f, s, m) => [(1, .ptr 1 0 0 0), (3, .ref 900 1 0 n n), (5, .ref 901 1 0 f.length f.length), (6, .ref 902 1 0 s.length s.length)]) (fun (q : List Nat × List Nat × List Nat × Nat) => match q with | (S, f, s, m) => [(1, .cells [.int n, .d (arcsD (castA l))]), (900, .row 1 (inRow n S)), (901, .row 1 (f.map natD)), (902, .row 1 (s.map natD))]) (fun (q : List Nat × List Nat × List Nat × Nat) => match q with | (S, f, s, m) => S.length) (List.range n, [], [], 4 * n + 4) ?_ ?_ ?_
   ·exact ⟨List.nodup_range, fun v hv => List.mem_range.1 hv, by simp, by simp, hR⟩
   ·exact eL [(901, 20), (902, 21)] _ _ (by refine ⟨?_, ?_⟩ <;> (repeat' first | exact fmn | refine fmc ⟨(by first | rfl | (simp (disch := omega) only [go_sem, simprocAttr, inL]; first | done | omega | (congr 1; done))), ?_⟩); done)
   ·rintro ⟨S, f, s, m⟩ ⟨hnd, hlt, hsz, hm, hr⟩
    dsimp only at hnd hlt hsz hm hr ⊢
    rcases Nat.eq_zero_or_pos S.length with h0 | hpos
    ·have hS : S = [] := List.eq_nil_of_length_eq_zero h0
     subst hS
     rw [Go.Cy.runF_nil] at hr
     subst hr
     repeat' first | refine pw_step rfl ?_ | refine pw_ret ?_ | refine wR ?_ | (refine wpG_split rfl rfl (fun hc => ?_) (fun hc => ?_) <;> try simp only [hcL] at hc) | (refine pw_cond _ rfl rfl (fun hc => ?_) (fun hc => ?_) <;> (try simp only [hcL] at hc) <;> try omega) | simp (disch := omega) only [go_sem, simprocAttr, roomy, take_map_len] | (first | exact nat_cells s | exact nat_cells f) | apply And.intro | omega | decide +kernel
     exact ret_ref (o := 74) rfl rfl (by simp) (by rw [List.take_of_length_le (by simp)]; simp)
    ·have hp0 := rpick0 n l S hi hn hll
     repeat' first | refine pw_step rfl ?_ | refine pw_ret ?_ | refine pw_region (Nat.beq 39) hmix ?_ | (refine rc (hp0) rfl ?_ ?_; (· first | rfl | simp (disch := omega) only [go_sem, simprocAttr, inRow_len, inRow_take])) | (refine wpG_split rfl rfl (fun hc => ?_) (fun hc => ?_) <;> try simp only [hcL] at hc) | (refine pw_cond _ rfl rfl (fun hc => ?_) (fun hc => ?_) <;> (try simp only [hcL] at hc) <;> try omega) | simp (disch := omega) only [go_sem, simprocAttr, inRow_len, inRow_take] | apply And.intro | omega | decide +kernel
     refine pw_loopI (κ := List Nat × List Nat × Nat) (fun (q : List Nat × List Nat × Nat) => match q with | (S', s', m') => S'.Nodup ∧ (∀ v, v ∈ S' → v < n) ∧ f.length + s'.length + S'.length = n ∧ S'.length ≤ S.length ∧ 4 * S'.length + 4 ≤ m' ∧ R = runF n l m' 0 S' f s') (fun (q : List Nat × List Nat × Nat) => match q with | (S', s', m') => [(1, .ptr 1 0 0 0), (3, .ref 900 1 0 n n), (5, .ref 901 1 0 f.length f.length), (6, .ref 902 1 0 s'.length s'.length), (7, .int (optI (sinkV n l S')))]) (fun (q : List Nat × List Nat × Nat) => match q with | (S', s', m') => [(1, .cells [.int n, .d (arcsD (castA l))]), (900, .row 1 (inRow n S')), (901, .row 1 (f.map natD)), (902, .row 1 (s'.map natD))]) (fun (q : List Nat × List Nat × Nat) => match q with | (S', s', m') => S'.length) (S, s, m) ?_ ?_ ?_
     ·exact ⟨hnd, hlt, hsz, Nat.le_refl _, hm, hr⟩
     ·exact eL [] _ _ (by refine ⟨?_, ?_⟩ <;> (repeat' first | exact fmn | refine fmc ⟨(by first | rfl | (simp (disch := omega) only [go_sem, simprocAttr, inL]; first | done | omega | (congr 1; done))), ?_⟩); done)
     ·rintro ⟨S1, s1, m1⟩ ⟨hnd1, hlt1, hsz1, hSS1, hm1, hr1⟩
      dsimp only at hnd1 hlt1 hsz1 hSS1 hm1 hr1 ⊢
      obtain ⟨m1, rfl⟩ : ∃ k, m1 = k + 1 := ⟨m1 - 1, by omega⟩
      rw [runF] at hr1
      rcases hv1 : sinkV n l S1 with _ | v
      ·rw [hv1] at hr1
       dsimp only at hr1
       rw [hopt]
       have hp1 := rpick1 n l S1 hi hn hll
       repeat' first | refine pw_step rfl ?_ | refine pw_ret ?_ | refine wR ?_ | (refine rc (hp1) rfl ?_ ?_; (· first | rfl | simp (disch := omega) only [go_sem, simprocAttr, inRow_len, inRow_take])) | (refine wpG_split rfl rfl (fun hc => ?_) (fun hc => ?_) <;> try simp only [hcL] at hc) | (refine pw_cond _ rfl rfl (fun hc => ?_) (fun hc => ?_) <;> (try simp only [hcL] at hc) <;> try omega) | simp (disch := omega) only [go_sem, simprocAttr, inRow_len, inRow_take] | apply And.intro | omega | decide +kernel
       refine pw_loopI (κ := List Nat × List Nat × Nat) (fun (q : List Nat × List Nat × Nat) => match q with | (S', f', m') => S'.Nodup ∧ (∀ v, v ∈ S' → v < n) ∧ f'.length + s1.length + S'.length = n ∧ S'.length ≤ S.length ∧ 4 * S'.length + 3 ≤ m' ∧ R = runF n l m' 1 S' f' s1) (fun (q : List Nat × List Nat × Nat) => match q with | (S', f', m') => [(1, .ptr 1 0 0 0), (3, .ref 900 1 0 n n), (5, .ref 901 1 0 f'.length f'.length), (6, .ref 902 1 0 s1.length s1.length), (7, .int (optI (srcV n l S')))]) (fun (q : List Nat × List Nat × Nat) => match q with | (S', f', m') => [(1, .cells [.int n, .d (arcsD (castA l))]), (900, .row 1 (inRow n S')), (901, .row 1 (f'.map natD)), (902, .row 1 (s1.map natD))]) (fun (q : List Nat × List Nat × Nat) => match q with | (S', f', m') => S'.length) (S1, f, m1) ?_ ?_ ?_
       ·exact ⟨hnd1, hlt1, hsz1, hSS1, by omega, hr1⟩
       ·exact eL [] _ _ (by refine ⟨?_, ?_⟩ <;> (repeat' first | exact fmn | refine fmc ⟨(by first | rfl | (simp (disch := omega) only [go_sem, simprocAttr, inL]; first | done | omega | (congr 1; done))), ?_⟩); done)
       ·rintro ⟨S2, f2, m2⟩ ⟨hnd2, hlt2, hsz2, hSS2, hm2, hr2⟩
        dsimp only at hnd2 hlt2 hsz2 hSS2 hm2 hr2 ⊢
        obtain ⟨m2, rfl⟩ : ∃ k, m2 = k + 1 := ⟨m2 - 1, by omega⟩
        rw [runF] at hr2
        rcases hv2 : srcV n l S2 with _ | v
        ·rw [hv2] at hr2
         dsimp only at hr2
         rw [hopt]
         have hp2 := rpick2 n l S2 hi hn hll
         obtain ⟨m2, rfl⟩ : ∃ k, m2 = k + 1 := ⟨m2 - 1, by omega⟩
         rw [runF] at hr2
         have hbs := Go.Cy.bestK_spec l S2 n
         have hbv : bestV n l S2 = bestK l S2 n := rfl
         rw [hbv] at hr2 hp2
         rcases hbk : bestK l S2 n with _ | b
         ·rw [hbk] at hr2 hbs hp2
          dsimp only at hr2 hbs
          rw [hopt] at hp2
          have hS2 : S2 = [] := List.eq_nil_iff_forall_not_mem.2 fun u hu => hbs u (hlt2 u hu) hu
          subst hS2
          repeat' first | refine pw_step rfl ?_ | refine pw_ret ?_ | refine wR ?_ | (refine rc (hp2) rfl ?_ ?_; (· first | rfl | simp (disch := omega) only [go_sem, simprocAttr, inRow_len, inRow_take])) | (refine wpG_split rfl rfl (fun hc => ?_) (fun hc => ?_) <;> try simp only [hcL] at hc) | (refine pw_cond _ rfl rfl (fun hc => ?_) (fun hc => ?_) <;> (try simp only [hcL] at hc) <;> try omega) | simp (disch := omega) only [go_sem, simprocAttr, inRow_len, inRow_take] | apply And.intro | omega | decide +kernel
          refine ⟨([], f2, s1, 4), ?_, eL [] _ _ (by refine ⟨?_, ?_⟩ <;> (repeat' first | exact fmn | refine fmc ⟨(by first | rfl | (simp (disch := omega) only [go_sem, simprocAttr, inL]; first | done | omega | (congr 1; done))), ?_⟩); done), ?_⟩
          ·dsimp only
           exact ⟨List.nodup_nil, by simp, hsz2, by simp, by rw [Go.Cy.runF_nil]; exact hr2⟩
          ·dsimp only; simpa using hpos
         ·rw [hbk] at hr2 hbs hp2
          dsimp only at hr2 hbs
          obtain ⟨h1, h2, h3⟩ := hbs
          have hlen : (S2.erase b).length = S2.length - 1 := List.length_erase_of_mem h2
          have hSp := List.length_pos_of_mem h2
          have hg := inRow_get S2 h1
          have hs := inRow_erase (n := n) hnd2 b
          have e1 : optI (some b) = (b : Int) := rfl
          rw [e1] at hp2
          repeat' first | refine pw_step rfl ?_ | refine pw_ret ?_ | refine wR ?_ | (refine rc (hp2) rfl ?_ ?_; (· first | rfl | simp (disch := omega) only [go_sem, simprocAttr, inRow_len, inRow_take, hg, hs, roomy, take_map_len])) | (refine wpG_split rfl rfl (fun hc => ?_) (fun hc => ?_) <;> try simp only [hcL] at hc) | (refine pw_cond _ rfl rfl (fun hc => ?_) (fun hc => ?_) <;> (try simp only [hcL] at hc) <;> try omega) | simp (disch := omega) only [go_sem, simprocAttr, inRow_len, inRow_take, hg, hs, roomy, take_map_len] | exact nat_one _ | apply And.intro | omega | decide +kernel
          refine ⟨(S2.erase b, f2 ++ [b], s1, m2), ?_, eL [(901, 71)] _ _ (by refine ⟨?_, ?_⟩ <;> (repeat' first | exact fmn | refine fmc ⟨(by first | rfl | (simp (disch := omega) only [go_sem, simprocAttr, inL, hlen, List.length_append, List.length_singleton, List.map_append, List.map_cons, List.map_nil]; first | done | omega | (congr 1; done))), ?_⟩); done), ?_⟩
          ·dsimp only
           exact ⟨hnd2.erase b, fun u hu => hlt2 u (List.mem_of_mem_erase hu), by rw [hlen, List.length_append, List.length_singleton]; omega, by omega, hr2⟩
          ·dsimp only; omega
        ·rw [hv2] at hr2
         dsimp only at hr2
         obtain ⟨h1, h2, h3⟩ := Go.Cy.pickV_some hv2
         have hlen : (S2.erase v).length = S2.length - 1 := List.length_erase_of_mem h2
         have hSp := List.length_pos_of_mem h2
         have hg := inRow_get S2 h1
         have hs := inRow_erase (n := n) hnd2 v
         have hopt2 : optI (some v) = (v : Int) := rfl
         rw [hopt2]
         have hp2 := rpick1 n l (S2.erase v) hi hn hll
         repeat' first | refine pw_step rfl ?_ | refine pw_ret ?_ | refine wR ?_ | (refine rc (hp2) rfl ?_ ?_; (· first | rfl | simp (disch := omega) only [go_sem, simprocAttr, inRow_len, inRow_take, hg, hs, roomy, take_map_len])) | (refine wpG_split rfl rfl (fun hc => ?_) (fun hc => ?_) <;> try simp only [hcL] at hc) | (refine pw_cond _ rfl rfl (fun hc => ?_) (fun hc => ?_) <;> (try simp only [hcL] at hc) <;> try omega) | simp (disch := omega) only [go_sem, simprocAttr, inRow_len, inRow_take, hg, hs, roomy, take_map_len] | exact nat_one _ | apply And.intro | omega | decide +kernel
         refine ⟨(S2.erase v, f2 ++ [v], m2), ?_, eL [(901, 56)] _ _ (by refine ⟨?_, ?_⟩ <;> (repeat' first | exact fmn | refine fmc ⟨(by first | rfl | (simp (disch := omega) only [go_sem, simprocAttr, inL, hlen, List.length_append, List.length_singleton, List.map_append, List.map_cons, List.map_nil]; first | done | omega | (congr 1; done))), ?_⟩); done), ?_⟩
         ·dsimp only
          exact ⟨hnd2.erase v, fun u hu => hlt2 u (List.mem_of_mem_erase hu), by rw [hlen, List.length_append, List.length_singleton]; omega, by omega, by omega, hr2⟩
         ·dsimp only; omega
      ·rw [hv1] at hr1
       dsimp only at hr1
       obtain ⟨h1, h2, h3⟩ := Go.Cy.pickV_some hv1
       have hlen : (S1.erase v).length = S1.length - 1 := List.length_erase_of_mem h2
       have hSp := List.length_pos_of_mem h2
       have hg := inRow_get S1 h1
       have hs := inRow_erase (n := n) hnd1 v
       have hopt2 : optI (some v) = (v : Int) := rfl
       rw [hopt2]
       have hp2 := rpick0 n l (S1.erase v) hi hn hll
       repeat' first | refine pw_step rfl ?_ | refine pw_ret ?_ | refine pw_region (Nat.beq 39) hmix ?_ | (refine rc (hp2) rfl ?_ ?_; (· first | rfl | simp (disch := omega) only [go_sem, simprocAttr, inRow_len, inRow_take, hg, hs, roomy, take_map_len])) | (refine wpG_split rfl rfl (fun hc => ?_) (fun hc => ?_) <;> try simp only [hcL] at hc) | (refine pw_cond _ rfl rfl (fun hc => ?_) (fun hc => ?_) <;> (try simp only [hcL] at hc) <;> try omega) | simp (disch := omega) only [go_sem, simprocAttr, inRow_len, inRow_take, hg, hs, roomy, take_map_len] | (first | exact nat_cells s1 | exact nat_one _) | apply And.intro | omega | decide +kernel
       refine ⟨(S1.erase v, v :: s1, m1), ?_, eL [(902, 41)] _ _ (by refine ⟨?_, ?_⟩ <;> (repeat' first | exact fmn | refine fmc ⟨(by first | rfl | (simp (disch := omega) only [go_sem, simprocAttr, inL, hlen, List.length_cons, List.map_cons]; first | done | omega | (congr 1; done))), ?_⟩); done), ?_⟩
       ·dsimp only
        exact ⟨hnd1.erase v, fun u hu => hlt1 u (List.mem_of_mem_erase hu), by rw [hlen, List.length_cons]; omega, by omega, by omega, hr1⟩
       ·dsimp only; omega
theorem rGreedy_bad (g : Gr) (h : gOk g = false) : CallsTo Tryd.prog 15 [gD g] (.sl []) := by
 have hv : CallsTo Tryd.prog 12 [gD g] (.bool false) := h ▸ rValid_spec g
 refine callsTo_of Tryd.func15 rfl (by decide +kernel) (Nat.le_of_ble_eq_true rfl) ?_
 intro hat B X w0
 repeat' first | refine pw_step rfl ?_ | refine pw_ret ?_ | refine wR ?_ | (refine rc (hv) rfl ?_ ?_; (· first | rfl | simp (disch := omega) only [go_sem, simprocAttr])) | (refine wpG_split rfl rfl (fun hc => ?_) (fun hc => ?_) <;> try simp only [hcL] at hc) | (refine pw_cond _ rfl rfl (fun hc => ?_) (fun hc => ?_) <;> (try simp only [hcL] at hc) <;> try omega) | simp (disch := omega) only [go_sem, simprocAttr] | apply And.intro | omega | decide +kernel
 exact rfl
theorem rGreedy_ok (n : Nat) (l : List NA) (h : gOk ((n : Int), castA l) = true) (hi : InN n l) (hn : n ≤ 64) (hll : l.length ≤ 256) : CallsTo Tryd.prog 15 [gD ((n : Int), castA l)] (natsD (backL (greedyO n l) l)) := by
 have hv : CallsTo Tryd.prog 12 [gD ((n : Int), castA l)] (.bool true) := h ▸ rValid_spec _
 have ho := rOrder_spec n l hi hn hll
 have hb := rBackward_spec n l (greedyO n l) hi hn hll (Go.Cy.greedy_part n l)
 refine callsTo_of Tryd.func15 rfl (by decide +kernel) (Nat.le_of_ble_eq_true rfl) ?_
 intro hat B X w0
 repeat' first | refine pw_step rfl ?_ | refine pw_ret ?_ | refine wR ?_ | (refine rc (hv) rfl ?_ ?_; (· first | rfl | simp (disch := omega) only [go_sem, simprocAttr])) | (refine rc (ho) rfl ?_ ?_; (· first | rfl | simp (disch := omega) only [go_sem, simprocAttr])) | (refine rc (hb) rfl ?_ ?_; (· first | rfl | simp (disch := omega) only [go_sem, simprocAttr])) | (refine wpG_split rfl rfl (fun hc => ?_) (fun hc => ?_) <;> try simp only [hcL] at hc) | (refine pw_cond _ rfl rfl (fun hc => ?_) (fun hc => ?_) <;> (try simp only [hcL] at hc) <;> try omega) | simp (disch := omega) only [go_sem, simprocAttr] | apply And.intro | omega | decide +kernel
 exact rfl
end Go.Proofs.YthbcmebhpabpnaaDoor
namespace Go.Proofs.YthbcmebhpabpnaaDoor
open Go Go.PS Go.Proofs
open Go.Cy (NA InN bwd bwdAt backL lessS lexLt srch srchK betterS leastS greedyO flipN)
open Go.Bd (Part)
set_option maxRecDepth 100000
attribute [local irreducible] wpRun wpG CallsTo CallsM

theorem lex_take : ∀ {a b : List Nat} {k : Nat}, a.take k = b.take k → lexLt (a.drop k) (b.drop k) = lexLt a b
 | a, b, 0, _ => by rw [List.drop_zero, List.drop_zero]
 | [], [], k + 1, _ => by simp
 | [], y :: b, k + 1, h => by simp at h
 | x :: a, [], k + 1, h => by simp at h
 | x :: a, y :: b, k + 1, h => by
  simp only [List.take_succ_cons, List.cons.injEq] at h
  obtain ⟨rfl, h⟩ := h
  rw [List.drop_succ_cons, List.drop_succ_cons, lex_take h, lexLt, if_pos rfl]
set_option maxHeartbeats 4000000 in
theorem rless_spec (a b : List Nat) : CallsTo Tryd.prog 45 [natsD a, natsD b] (.bool (lessS a b)) := by
 refine callsTo_of Tryd.func45 rfl (by decide +kernel) (Nat.le_of_ble_eq_true rfl) ?_
 intro hat B X w0
 have ha := at_len 0 hat rfl
 have hb := at_len 1 hat rfl
 rw [List.length_map] at ha hb
 by_cases c : a.length = b.length
 ·have c' : (a.length : Int) = b.length := by omega
  rw [lessS, if_pos c]
  repeat' first | refine pw_step rfl ?_ | refine pw_ret ?_ | refine wR ?_ | (refine wpG_split rfl rfl (fun hc => ?_) (fun hc => ?_) <;> try simp only [hcL] at hc) | (refine pw_cond _ rfl rfl (fun hc => ?_) (fun hc => ?_) <;> (try simp only [hcL] at hc) <;> try omega) | simp (disch := omega) only [go_sem, simprocAttr, c'] | apply And.intro | omega | decide +kernel
  refine pw_loopI (κ := Nat) (fun (k : Nat) => k ≤ a.length ∧ a.take k = b.take k) (fun (k : Nat) => [(0, .d (natsD a)), (1, .d (natsD b)), (5, .int k)]) (fun (k : Nat) => []) (fun (k : Nat) => a.length - k) 0 ?_ ?_ ?_
  ·exact ⟨Nat.zero_le _, rfl⟩
  ·exact eL [] _ _ (by refine ⟨?_, ?_⟩ <;> (repeat' first | exact fmn | refine fmc ⟨(by first | rfl | (simp (disch := omega) only [go_sem, simprocAttr, inL]; first | done | omega | (congr 1; done))), ?_⟩); done)
  ·rintro k ⟨hk, hinv⟩
   rcases Nat.lt_or_ge k a.length with hlt | hge
   ·obtain ⟨x, hx⟩ := get_some hlt
    obtain ⟨y, hy⟩ := get_some (show k < b.length by omega)
    by_cases d : x = y
    ·subst d
     repeat' first | refine pw_step rfl ?_ | refine pw_ret ?_ | refine wR ?_ | (refine wpG_split rfl rfl (fun hc => ?_) (fun hc => ?_) <;> try simp only [hcL] at hc) | (refine pw_cond _ rfl rfl (fun hc => ?_) (fun hc => ?_) <;> (try simp only [hcL] at hc) <;> try omega) | simp (disch := omega) only [go_sem, simprocAttr, hx, hy] | apply And.intro | omega | decide +kernel
     refine ⟨k + 1, ?_, eL [] _ _ (by refine ⟨?_, ?_⟩ <;> (repeat' first | exact fmn | refine fmc ⟨(by first | rfl | (simp (disch := omega) only [go_sem, simprocAttr, inL]; first | done | omega | (congr 1; done))), ?_⟩); done), ?_⟩
     ·exact ⟨by omega, by rw [take_snoc hx, take_snoc hy, hinv]⟩
     ·omega
    ·have d' : ¬ (x : Int) = y := by omega
     have e : lexLt a b = decide (x < y) := by
      obtain ⟨h1, h2⟩ := List.getElem?_eq_some_iff.1 hx
      obtain ⟨h3, h4⟩ := List.getElem?_eq_some_iff.1 hy
      rw [← lex_take hinv, List.drop_eq_getElem_cons h1, List.drop_eq_getElem_cons h3, lexLt, h2, h4, if_neg d]
     rw [e]
     repeat' first | refine pw_step rfl ?_ | refine pw_ret ?_ | refine wR ?_ | (refine wpG_split rfl rfl (fun hc => ?_) (fun hc => ?_) <;> try simp only [hcL] at hc) | (refine pw_cond _ rfl rfl (fun hc => ?_) (fun hc => ?_) <;> (try simp only [hcL] at hc) <;> try omega) | simp (disch := omega) only [go_sem, simprocAttr, hx, hy, d'] | apply And.intro | omega | decide +kernel
     exact bool_some (decide_eq_decide.2 (by omega))
   ·have e : a = b := by
     have h1 : a.take k = a := List.take_of_length_le hge
     have h2 : b.take k = b := List.take_of_length_le (by omega)
     rw [h1, h2] at hinv; exact hinv
    subst e
    rw [Go.Cy.lexLt_irr]
    repeat' first | refine pw_step rfl ?_ | refine pw_ret ?_ | refine wR ?_ | (refine wpG_split rfl rfl (fun hc => ?_) (fun hc => ?_) <;> try simp only [hcL] at hc) | (refine pw_cond _ rfl rfl (fun hc => ?_) (fun hc => ?_) <;> (try simp only [hcL] at hc) <;> try omega) | simp (disch := omega) only [go_sem, simprocAttr] | apply And.intro | omega | decide +kernel
    exact rfl
 ·have c' : ¬ (a.length : Int) = b.length := by omega
  rw [lessS, if_neg c]
  repeat' first | refine pw_step rfl ?_ | refine pw_ret ?_ | refine wR ?_ | (refine wpG_split rfl rfl (fun hc => ?_) (fun hc => ?_) <;> try simp only [hcL] at hc) | (refine pw_cond _ rfl rfl (fun hc => ?_) (fun hc => ?_) <;> (try simp only [hcL] at hc) <;> try omega) | simp (disch := omega) only [go_sem, simprocAttr, c'] | apply And.intro | omega | decide +kernel
  exact bool_some (decide_eq_decide.2 (by omega))
set_option maxHeartbeats 16000000 in
theorem rBackwardM (n : Nat) (l : List NA) (R : List Nat) (hi : InN n l) (hn : n ≤ 64) (hll : l.length ≤ 256) (hP : Part n 0 R) : CallsM Tryd.prog 22 [.d (gD ((n : Int), castA l)), .ref 1000 1 0 n n] [(1000, .row 1 (R.map natD)), (2000, .dead)] (.ref 2000 1 0 (backL R l).length (backL R l).length) [(1000, .row 1 (R.map natD)), (2000, .row 1 ((backL R l).map natD))] := by
 have hcl := castA_len l
 have hRl : R.length = n := by have := hP.len; omega
 refine callsM_of Tryd.func22 rfl (by decide +kernel) (Nat.le_of_ble_eq_true rfl) rfl (nodup_of rfl) rfl rfl rfl ?_
 intro B X w0
 refine pw_post ?_
 repeat' first | refine pw_step rfl ?_ | refine wR ?_ | (refine wpG_split rfl rfl (fun hc => ?_) (fun hc => ?_) <;> try simp only [hcL] at hc) | (refine pw_cond _ rfl rfl (fun hc => ?_) (fun hc => ?_) <;> (try simp only [hcL] at hc) <;> try omega) | simp (disch := omega) only [go_sem, simprocAttr, hRl] | apply And.intro | omega | decide +kernel
 refine pw_loopI (κ := Nat) (fun (k : Nat) => k ≤ n) (fun (k : Nat) => [(1, .ref 1000 1 0 n n), (2, .ptr 2 0 0 0), (5, .ref 11 1 0 n n), (6, .int k)]) (fun (k : Nat) => [(2, .cells [.int n, .d (arcsD (castA l))]), (1000, .row 1 (R.map natD)), (11, .row 1 (rowN n (plF R k)))]) (fun (k : Nat) => n - k) 0 ?_ ?_ ?_
 ·exact Nat.zero_le _
 ·exact eL [] _ _ (by refine ⟨?_, ?_⟩ <;> (repeat' first | exact fmn | refine fmc ⟨(by first | rfl | (simp (disch := omega) only [go_sem, simprocAttr, inL, pl_rep n R]; first | done | omega | (congr 1; done))), ?_⟩); done)
 ·intro k hk
  rcases Nat.lt_or_ge k n with hlt | hge
  ·obtain ⟨v, hvk⟩ := get_some (show k < R.length by omega)
   have hvn := hP.lt v (List.mem_of_getElem? hvk)
   have hg := rowN_get (plF R k) hvn
   have hs := rowN_set (n := n) (f := plF R k) (f' := plF R (k + 1)) (i := v) (x := k) (fun w _ => pl_succ hP.nd hvk w)
   repeat' first | refine pw_step rfl ?_ | refine wR ?_ | (refine wpG_split rfl rfl (fun hc => ?_) (fun hc => ?_) <;> try simp only [hcL] at hc) | (refine pw_cond _ rfl rfl (fun hc => ?_) (fun hc => ?_) <;> (try simp only [hcL] at hc) <;> try omega) | simp (disch := omega) only [go_sem, simprocAttr, hvk, hRl, hg, rowN_len, hs] | apply And.intro | omega | decide +kernel
   refine ⟨k + 1, ?_, eL [] _ _ (by refine ⟨?_, ?_⟩ <;> (repeat' first | exact fmn | refine fmc ⟨(by first | rfl | (simp (disch := omega) only [go_sem, simprocAttr, inL]; first | done | omega | (congr 1; done))), ?_⟩); done), ?_⟩
   ·omega
   ·omega
  ·have hk : n = k := by omega
   subst hk
   repeat' first | refine pw_step rfl ?_ | refine pw_region (Nat.beq 25) hmix ?_ | (refine wpG_split rfl rfl (fun hc => ?_) (fun hc => ?_) <;> try simp only [hcL] at hc) | (refine pw_cond _ rfl rfl (fun hc => ?_) (fun hc => ?_) <;> (try simp only [hcL] at hc) <;> try omega) | simp (disch := omega) only [go_sem, simprocAttr, hRl, hcl] | apply And.intro | omega | decide +kernel
   refine pw_loopI (κ := Nat) (fun (k : Nat) => k ≤ l.length) (fun (k : Nat) => [(1, .ref 1000 1 0 n n), (2, .ptr 2 0 0 0), (5, .ref 11 1 0 n n), (7, .ref 901 1 0 (backK R l k).length (backK R l k).length), (8, .int k)]) (fun (k : Nat) => [(2, .cells [.int n, .d (arcsD (castA l))]), (1000, .row 1 (R.map natD)), (11, .row 1 (rowN n (plF R n))), (901, .row 1 ((backK R l k).map natD))]) (fun (k : Nat) => l.length - k) 0 ?_ ?_ ?_
   ·exact Nat.zero_le _
   ·exact eL [(901, 25)] _ _ (by refine ⟨?_, ?_⟩ <;> (repeat' first | exact fmn | refine fmc ⟨(by first | rfl | (simp (disch := omega) only [go_sem, simprocAttr, inL]; first | done | omega | (congr 1; done))), ?_⟩); done)
   ·intro k hk
    rcases Nat.lt_or_ge k l.length with hlt | hge
    ·obtain ⟨a, ha⟩ := get_some hlt
     have hp := castA_get ha
     have hin := hi a (List.mem_of_getElem? ha)
     have g1 := rowN_get (plF R n) hin.1
     have g2 := rowN_get (plF R n) hin.2
     have q1 := pl_all hP hin.1
     have q2 := pl_all hP hin.2
     rw [hRl] at q1 q2
     rw [q1] at g1
     rw [q2] at g2
     have hs := backK_succ R ha
     have hbl := backK_len R l k
     rw [bwd] at hs
     by_cases c : R.idxOf a.2 < R.idxOf a.1
     ·rw [decide_eq_true c, if_pos rfl] at hs
      repeat' first | refine pw_step rfl ?_ | refine wR ?_ | (refine wpG_split rfl rfl (fun hc => ?_) (fun hc => ?_) <;> try simp only [hcL] at hc) | (refine pw_cond _ rfl rfl (fun hc => ?_) (fun hc => ?_) <;> (try simp only [hcL] at hc) <;> try omega) | simp (disch := omega) only [go_sem, simprocAttr, hp, hcl, g1, g2, rowN_len, roomy, take_map_len] | exact nat_one _ | apply And.intro | omega | decide +kernel
      refine ⟨k + 1, ?_, eL [(901, 55)] _ _ (by refine ⟨?_, ?_⟩ <;> (repeat' first | exact fmn | refine fmc ⟨(by first | rfl | (simp (disch := omega) only [go_sem, simprocAttr, inL, hs, List.length_append, List.length_singleton, List.map_append, List.map_cons, List.map_nil]; first | done | omega | (congr 1; done))), ?_⟩); done), ?_⟩
      ·omega
      ·omega
     ·rw [decide_eq_false c, if_neg Bool.false_ne_true] at hs
      repeat' first | refine pw_step rfl ?_ | refine wR ?_ | (refine wpG_split rfl rfl (fun hc => ?_) (fun hc => ?_) <;> try simp only [hcL] at hc) | (refine pw_cond _ rfl rfl (fun hc => ?_) (fun hc => ?_) <;> (try simp only [hcL] at hc) <;> try omega) | simp (disch := omega) only [go_sem, simprocAttr, hp, hcl, g1, g2, rowN_len] | apply And.intro | omega | decide +kernel
      refine ⟨k + 1, ?_, eL [] _ _ (by refine ⟨?_, ?_⟩ <;> (repeat' first | exact fmn | refine fmc ⟨(by first | rfl | (simp (disch := omega) only [go_sem, simprocAttr, inL, hs]; first | done | omega | (congr 1; done))), ?_⟩); done), ?_⟩
      ·omega
      ·omega
    ·have hk : k = l.length := by omega
     subst hk
     have hbk : backK R l l.length = backL R l := rfl
     rw [hbk]
     repeat' first | refine pw_step rfl ?_ | refine wR ?_ | (refine wpG_split rfl rfl (fun hc => ?_) (fun hc => ?_) <;> try simp only [hcL] at hc) | (refine pw_cond _ rfl rfl (fun hc => ?_) (fun hc => ?_) <;> (try simp only [hcL] at hc) <;> try omega) | simp (disch := omega) only [go_sem, simprocAttr, hcl] | apply And.intro | omega | decide +kernel
     refine pw_ret ?_
     refine ⟨_, entL_iff.1 (eL [(2000, 901)] [(4, .ref 2000 1 0 (backL R l).length (backL R l).length)] [(1000, .row 1 (R.map natD)), (2000, .row 1 ((backL R l).map natD))] (by refine ⟨?_, ?_⟩ <;> (repeat' first | exact fmn | refine fmc ⟨(by first | rfl | (simp (disch := omega) only [go_sem, simprocAttr, inL]; first | done | omega | (congr 1; done))), ?_⟩); done)), ?_⟩
     exact ⟨rfl, fmc ⟨rfl, fmc ⟨rfl, fmn⟩⟩⟩
def outS (o : Option (List Nat)) : List Nat := o.getD []
theorem used_succ (m : List Nat) (v : Nat) {i x : Nat} (h : m[i]? = some x) : decide (v ∈ m.take (i + 1)) = (decide (v ∈ m.take i) || decide (x = v)) := by
 rw [take_snoc h, Bool.eq_iff_iff]
 simp only [List.mem_append, List.mem_singleton, Bool.or_eq_true, decide_eq_true_eq]
 exact ⟨fun h => h.imp id Eq.symm, fun h => h.imp id Eq.symm⟩
set_option maxHeartbeats 32000000 in
theorem search_rec (n : Nat) (l : List NA) (hi : InN n l) (hn : n ≤ 64) (hll : l.length ≤ 256) : ∀ (f : Nat) (m : List Nat), Part n f m →
  CallsM Tryd.prog 31 [.d (gD ((n : Int), castA l)), .ref 1000 1 0 m.length m.length] [(1000, .row 1 (m.map natD)), (2000, .dead)] (.ref 2000 1 0 (srch n l f m).length (srch n l f m).length) [(1000, .row 1 (m.map natD)), (2000, .row 1 ((srch n l f m).map natD))] := by
 intro f
 induction f with
 | zero =>
  intro m hP
  have hml : m.length = n := by have := hP.len; omega
  have hb := rBackwardM n l m hi hn hll hP
  rw [← hml] at hb
  have e : srch n l 0 m = backL m l := by rw [srch]
  rw [e]
  have c' : (m.length : Int) = n := by omega
  refine callsM_of Tryd.func31 rfl (by decide +kernel) (Nat.le_of_ble_eq_true rfl) rfl (nodup_of rfl) rfl rfl rfl ?_
  intro B X w0
  refine pw_post ?_
  rw [← hml]
  repeat' first | refine pw_step rfl ?_ | refine wR ?_ | refine rcM [(1000, 1000), (2000, 903)] (hb) rfl ?_ | (refine wpG_split rfl rfl (fun hc => ?_) (fun hc => ?_) <;> try simp only [hcL] at hc) | (refine pw_cond _ rfl rfl (fun hc => ?_) (fun hc => ?_) <;> (try simp only [hcL] at hc) <;> try omega) | simp (disch := omega) only [go_sem, simprocAttr] | apply And.intro | omega | decide +kernel
  refine pw_ret ?_
  refine ⟨_, entL_iff.1 (eL [(2000, 903)] [(4, .ref 2000 1 0 (backL m l).length (backL m l).length)] [(1000, .row 1 (m.map natD)), (2000, .row 1 ((backL m l).map natD))] (by refine ⟨?_, ?_⟩ <;> (repeat' first | exact fmn | refine fmc ⟨(by first | rfl | (simp (disch := omega) only [go_sem, simprocAttr, inL]; first | done | omega | (congr 1; done))), ?_⟩); done)), ?_⟩
  exact ⟨rfl, fmc ⟨rfl, fmc ⟨rfl, fmn⟩⟩⟩
 | succ f IH =>
  intro m hP
  have hmn : m.length + (f + 1) = n := hP.len
  have hml : ¬ (m.length : Int) = n := by omega
  have e0 : srch n l (f + 1) m = outS (srchK n l f m n) := by rw [srch]; rfl
  rw [e0]
  refine callsM_of Tryd.func31 rfl (by decide +kernel) (Nat.le_of_ble_eq_true rfl) rfl (nodup_of rfl) rfl rfl rfl ?_
  intro B X w0
  refine pw_post ?_
  repeat' first | refine pw_step rfl ?_ | refine pw_region (fun s => (Nat.beq 20 s).or (Nat.beq 44 s)) hmix ?_ | (refine wpG_split rfl rfl (fun hc => ?_) (fun hc => ?_) <;> try simp only [hcL] at hc) | (refine pw_cond _ rfl rfl (fun hc => ?_) (fun hc => ?_) <;> (try simp only [hcL] at hc) <;> try omega) | simp (disch := omega) only [go_sem, simprocAttr, hml] | apply And.intro | omega | decide +kernel
  refine pw_loopI (κ := Nat) (fun (v : Nat) => v ≤ n) (fun (v : Nat) => [(1, .ref 1000 1 0 m.length m.length), (2, .ptr 2 0 0 0), (5, .ref 902 1 0 (outS (srchK n l f m v)).length (outS (srchK n l f m v)).length), (6, .bool (srchK n l f m v).isSome), (7, .int v)]) (fun (v : Nat) => [(2, .cells [.int n, .d (arcsD (castA l))]), (1000, .row 1 (m.map natD)), (902, .row 1 ((outS (srchK n l f m v)).map natD))]) (fun (v : Nat) => n - v) 0 ?_ ?_ ?_
  ·exact Nat.zero_le _
  ·exact eL [(902, 20)] _ _ (by refine ⟨?_, ?_⟩ <;> (repeat' first | exact fmn | refine fmc ⟨(by first | rfl | (simp (disch := omega) only [go_sem, simprocAttr, inL, srchK, outS, Option.isSome_none, Option.getD_none, List.length_nil, List.map_nil]; first | done | omega | (congr 1; done))), ?_⟩); done)
  ·intro v hv
   rcases Nat.lt_or_ge v n with hlt | hge
   ·have hmb := hmn
    repeat' first | refine pw_step rfl ?_ | refine wR ?_ | (refine wpG_split rfl rfl (fun hc => ?_) (fun hc => ?_) <;> try simp only [hcL] at hc) | (refine pw_cond _ rfl rfl (fun hc => ?_) (fun hc => ?_) <;> (try simp only [hcL] at hc) <;> try omega) | simp (disch := omega) only [go_sem, simprocAttr, hml] | apply And.intro | omega | decide +kernel
    refine pw_loopI (κ := Nat) (fun (i : Nat) => i ≤ m.length) (fun (i : Nat) => [(1, .ref 1000 1 0 m.length m.length), (2, .ptr 2 0 0 0), (5, .ref 902 1 0 (outS (srchK n l f m v)).length (outS (srchK n l f m v)).length), (6, .bool (srchK n l f m v).isSome), (7, .int v), (8, .bool (decide (v ∈ m.take i))), (9, .int i)]) (fun (i : Nat) => [(2, .cells [.int n, .d (arcsD (castA l))]), (1000, .row 1 (m.map natD)), (902, .row 1 ((outS (srchK n l f m v)).map natD))]) (fun (i : Nat) => m.length - i) 0 ?_ ?_ ?_
    ·exact Nat.zero_le _
    ·exact eL [] _ _ (by refine ⟨?_, ?_⟩ <;> (repeat' first | exact fmn | refine fmc ⟨(by first | rfl | (simp (disch := omega) only [go_sem, simprocAttr, inL, List.take_zero, List.not_mem_nil, decide_false]; first | done | omega | (congr 1; done))), ?_⟩); done)
    ·intro i hil
     rcases Nat.lt_or_ge i m.length with hi2 | hi2
     ·obtain ⟨x, hx⟩ := get_some hi2
      have hu := used_succ m v hx
      rcases hb : decide (v ∈ m.take i) with _ | _
      ·rw [hb] at hu
       by_cases d : x = v
       ·subst d
        rw [decide_eq_true rfl] at hu
        repeat' first | refine pw_step rfl ?_ | refine wR ?_ | (refine wpG_split rfl rfl (fun hc => ?_) (fun hc => ?_) <;> try simp only [hcL] at hc) | (refine pw_cond _ rfl rfl (fun hc => ?_) (fun hc => ?_) <;> (try simp only [hcL] at hc) <;> try omega) | simp (disch := omega) only [go_sem, simprocAttr, hx, List.length_map] | apply And.intro | omega | decide +kernel
        refine ⟨i + 1, ?_, eL [] _ _ (by refine ⟨?_, ?_⟩ <;> (repeat' first | exact fmn | refine fmc ⟨(by first | rfl | (simp (disch := omega) only [go_sem, simprocAttr, inL, hu, Bool.false_or]; first | done | omega | (congr 1; done))), ?_⟩); done), ?_⟩
        ·omega
        ·omega
       ·rw [decide_eq_false d] at hu
        have d' : ¬ (x : Int) = v := by omega
        repeat' first | refine pw_step rfl ?_ | refine wR ?_ | (refine wpG_split rfl rfl (fun hc => ?_) (fun hc => ?_) <;> try simp only [hcL] at hc) | (refine pw_cond _ rfl rfl (fun hc => ?_) (fun hc => ?_) <;> (try simp only [hcL] at hc) <;> try omega) | simp (disch := omega) only [go_sem, simprocAttr, hx, List.length_map, d'] | apply And.intro | omega | decide +kernel
        refine ⟨i + 1, ?_, eL [] _ _ (by refine ⟨?_, ?_⟩ <;> (repeat' first | exact fmn | refine fmc ⟨(by first | rfl | (simp (disch := omega) only [go_sem, simprocAttr, inL, hu, Bool.or_self]; first | done | omega | (congr 1; done))), ?_⟩); done), ?_⟩
        ·omega
        ·omega
      ·rw [hb] at hu
       repeat' first | refine pw_step rfl ?_ | refine wR ?_ | (refine wpG_split rfl rfl (fun hc => ?_) (fun hc => ?_) <;> try simp only [hcL] at hc) | (refine pw_cond _ rfl rfl (fun hc => ?_) (fun hc => ?_) <;> (try simp only [hcL] at hc) <;> try omega) | simp (disch := omega) only [go_sem, simprocAttr, hx, List.length_map] | apply And.intro | omega | decide +kernel
       refine ⟨i + 1, ?_, eL [] _ _ (by refine ⟨?_, ?_⟩ <;> (repeat' first | exact fmn | refine fmc ⟨(by first | rfl | (simp (disch := omega) only [go_sem, simprocAttr, inL, hu, Bool.true_or]; first | done | omega | (congr 1; done))), ?_⟩); done), ?_⟩
       ·omega
       ·omega
     ·have him : i = m.length := by omega
      subst him
      rw [List.take_length]
      by_cases c : v ∈ m
      ·rw [decide_eq_true c]
       have e : srchK n l f m (v + 1) = srchK n l f m v := by rw [srchK, if_pos c]
       repeat' first | refine pw_step rfl ?_ | refine wR ?_ | (refine wpG_split rfl rfl (fun hc => ?_) (fun hc => ?_) <;> try simp only [hcL] at hc) | (refine pw_cond _ rfl rfl (fun hc => ?_) (fun hc => ?_) <;> (try simp only [hcL] at hc) <;> try omega) | simp (disch := omega) only [go_sem, simprocAttr, List.length_map] | apply And.intro | omega | decide +kernel
       refine ⟨v + 1, ?_, eL [] _ _ (by refine ⟨?_, ?_⟩ <;> (repeat' first | exact fmn | refine fmc ⟨(by first | rfl | (simp (disch := omega) only [go_sem, simprocAttr, inL, e]; first | done | omega | (congr 1; done))), ?_⟩); done), ?_⟩
       ·omega
       ·omega
      ·rw [decide_eq_false c]
       have hP' := hP.snoc hlt c
       have ih := IH (m ++ [v]) hP'
       have e : srchK n l f m (v + 1) = betterS (srchK n l f m v) (srch n l f (m ++ [v])) := by rw [srchK, if_neg c]
       have hsl := Go.Cy.srch_len n l hP'
       obtain ⟨s, hs⟩ : ∃ s, s = srch n l f (m ++ [v]) := ⟨_, rfl⟩
       rw [← hs] at ih e hsl
       simp only [List.length_append, List.length_cons, List.length_nil, List.map_append, List.map_cons, List.map_nil, Nat.zero_add] at ih
       rcases hst : srchK n l f m v with _ | b
       ·rw [hst] at e
        have e1 : outS none = [] := rfl
        have e2 : (none : Option (List Nat)).isSome = false := rfl
        have e3 : betterS none s = some s := rfl
        rw [e1, e2]
        repeat' first | refine pw_step rfl ?_ | refine pw_region (Nat.beq 44) hmix ?_ | refine rcM [(1000, 52), (2000, 903)] (ih) rfl ?_ | (refine wpG_split rfl rfl (fun hc => ?_) (fun hc => ?_) <;> try simp only [hcL] at hc) | (refine pw_cond _ rfl rfl (fun hc => ?_) (fun hc => ?_) <;> (try simp only [hcL] at hc) <;> try omega) | simp (disch := omega) only [go_sem, simprocAttr, List.length_map, take_map_len, roomy] | (first | exact nat_cells m | exact nat_one _) | apply And.intro | omega | decide +kernel
        refine ⟨v + 1, ?_, eL [(902, 903)] _ _ (by refine ⟨?_, ?_⟩ <;> (repeat' first | exact fmn | refine fmc ⟨(by first | rfl | (simp (disch := omega) only [go_sem, simprocAttr, inL, e, e3, outS, Option.getD_some, Option.isSome_some]; first | done | omega | (congr 1; done))), ?_⟩); done), ?_⟩
        ·omega
        ·omega
       ·rw [hst] at e
        have e1 : outS (some b) = b := rfl
        have e2 : (some b : Option (List Nat)).isSome = true := rfl
        rw [e1, e2]
        have hls := rless_spec s b
        rcases hl2 : lessS s b with _ | _
        ·have e3 : betterS (some b) s = some b := by simp [betterS, hl2]
         rw [hl2] at hls
         repeat' first | refine pw_step rfl ?_ | refine pw_region (Nat.beq 44) hmix ?_ | refine rcM [(1000, 52), (2000, 903)] (ih) rfl ?_ | (refine rc (hls) rfl ?_ ?_; (· first | rfl | simp (disch := omega) only [go_sem, simprocAttr, List.length_map, take_map_len, roomy])) | (refine wpG_split rfl rfl (fun hc => ?_) (fun hc => ?_) <;> try simp only [hcL] at hc) | (refine pw_cond _ rfl rfl (fun hc => ?_) (fun hc => ?_) <;> (try simp only [hcL] at hc) <;> try omega) | simp (disch := omega) only [go_sem, simprocAttr, List.length_map, take_map_len, roomy] | (first | exact nat_cells m | exact nat_one _) | apply And.intro | omega | decide +kernel
         refine ⟨v + 1, ?_, eL [] _ _ (by refine ⟨?_, ?_⟩ <;> (repeat' first | exact fmn | refine fmc ⟨(by first | rfl | (simp (disch := omega) only [go_sem, simprocAttr, inL, e, e3, outS, Option.getD_some, Option.isSome_some]; first | done | omega | (congr 1; done))), ?_⟩); done), ?_⟩
         ·omega
         ·omega
        ·have e3 : betterS (some b) s = some s := by simp [betterS, hl2]
         rw [hl2] at hls
         repeat' first | refine pw_step rfl ?_ | refine pw_region (Nat.beq 44) hmix ?_ | refine rcM [(1000, 52), (2000, 903)] (ih) rfl ?_ | (refine rc (hls) rfl ?_ ?_; (· first | rfl | simp (disch := omega) only [go_sem, simprocAttr, List.length_map, take_map_len, roomy])) | (refine wpG_split rfl rfl (fun hc => ?_) (fun hc => ?_) <;> try simp only [hcL] at hc) | (refine pw_cond _ rfl rfl (fun hc => ?_) (fun hc => ?_) <;> (try simp only [hcL] at hc) <;> try omega) | simp (disch := omega) only [go_sem, simprocAttr, List.length_map, take_map_len, roomy] | (first | exact nat_cells m | exact nat_one _) | apply And.intro | omega | decide +kernel
         refine ⟨v + 1, ?_, eL [(902, 903)] _ _ (by refine ⟨?_, ?_⟩ <;> (repeat' first | exact fmn | refine fmc ⟨(by first | rfl | (simp (disch := omega) only [go_sem, simprocAttr, inL, e, e3, outS, Option.getD_some, Option.isSome_some]; first | done | omega | (congr 1; done))), ?_⟩); done), ?_⟩
         ·omega
         ·omega
   ·have hvn : n = v := by omega
    subst hvn
    repeat' first | refine pw_step rfl ?_ | refine wR ?_ | (refine wpG_split rfl rfl (fun hc => ?_) (fun hc => ?_) <;> try simp only [hcL] at hc) | (refine pw_cond _ rfl rfl (fun hc => ?_) (fun hc => ?_) <;> (try simp only [hcL] at hc) <;> try omega) | simp (disch := omega) only [go_sem, simprocAttr] | apply And.intro | omega | decide +kernel
    refine pw_ret ?_
    refine ⟨_, entL_iff.1 (eL [(2000, 902)] [(4, .ref 2000 1 0 (outS (srchK n l f m n)).length (outS (srchK n l f m n)).length)] [(1000, .row 1 (m.map natD)), (2000, .row 1 ((outS (srchK n l f m n)).map natD))] (by refine ⟨?_, ?_⟩ <;> (repeat' first | exact fmn | refine fmc ⟨(by first | rfl | (simp (disch := omega) only [go_sem, simprocAttr, inL]; first | done | omega | (congr 1; done))), ?_⟩); done)), ?_⟩
    exact ⟨rfl, fmc ⟨rfl, fmc ⟨rfl, fmn⟩⟩⟩
set_option maxHeartbeats 32000000 in
theorem search_data (n : Nat) (l : List NA) (hi : InN n l) (hn : n ≤ 64) (hll : l.length ≤ 256) (f : Nat) (m : List Nat) (hP : Part n (f + 1) m) :
  CallsTo Tryd.prog 31 [gD ((n : Int), castA l), natsD m] (natsD (srch n l (f + 1) m)) := by
  have IH := search_rec n l hi hn hll f
  have hmn : m.length + (f + 1) = n := hP.len
  have hml : ¬ (m.length : Int) = n := by omega
  have e0 : srch n l (f + 1) m = outS (srchK n l f m n) := by rw [srch]; rfl
  rw [e0]
  refine callsTo_of Tryd.func31 rfl (by decide +kernel) (Nat.le_of_ble_eq_true rfl) ?_
  intro hat B X w0
  repeat' first | refine pw_step rfl ?_ | refine pw_ret ?_ | refine pw_region (fun s => (Nat.beq 20 s).or (Nat.beq 44 s)) hmix ?_ | (refine wpG_split rfl rfl (fun hc => ?_) (fun hc => ?_) <;> try simp only [hcL] at hc) | (refine pw_cond _ rfl rfl (fun hc => ?_) (fun hc => ?_) <;> (try simp only [hcL] at hc) <;> try omega) | simp (disch := omega) only [go_sem, simprocAttr, hml] | apply And.intro | omega | decide +kernel
  refine pw_loopI (κ := Nat) (fun (v : Nat) => v ≤ n) (fun (v : Nat) => [(1, .d (natsD m)), (2, .ptr 2 0 0 0), (5, .ref 902 1 0 (outS (srchK n l f m v)).length (outS (srchK n l f m v)).length), (6, .bool (srchK n l f m v).isSome), (7, .int v)]) (fun (v : Nat) => [(2, .cells [.int n, .d (arcsD (castA l))]), (902, .row 1 ((outS (srchK n l f m v)).map natD))]) (fun (v : Nat) => n - v) 0 ?_ ?_ ?_
  ·exact Nat.zero_le _
  ·exact eL [(902, 20)] _ _ (by refine ⟨?_, ?_⟩ <;> (repeat' first | exact fmn | refine fmc ⟨(by first | rfl | (simp (disch := omega) only [go_sem, simprocAttr, inL, srchK, outS, Option.isSome_none, Option.getD_none, List.length_nil, List.map_nil]; first | done | omega | (congr 1; done))), ?_⟩); done)
  ·intro v hv
   rcases Nat.lt_or_ge v n with hlt | hge
   ·have hmb := hmn
    repeat' first | refine pw_step rfl ?_ | refine pw_ret ?_ | refine wR ?_ | (refine wpG_split rfl rfl (fun hc => ?_) (fun hc => ?_) <;> try simp only [hcL] at hc) | (refine pw_cond _ rfl rfl (fun hc => ?_) (fun hc => ?_) <;> (try simp only [hcL] at hc) <;> try omega) | simp (disch := omega) only [go_sem, simprocAttr, hml] | apply And.intro | omega | decide +kernel
    refine pw_loopI (κ := Nat) (fun (i : Nat) => i ≤ m.length) (fun (i : Nat) => [(1, .d (natsD m)), (2, .ptr 2 0 0 0), (5, .ref 902 1 0 (outS (srchK n l f m v)).length (outS (srchK n l f m v)).length), (6, .bool (srchK n l f m v).isSome), (7, .int v), (8, .bool (decide (v ∈ m.take i))), (9, .int i)]) (fun (i : Nat) => [(2, .cells [.int n, .d (arcsD (castA l))]), (902, .row 1 ((outS (srchK n l f m v)).map natD))]) (fun (i : Nat) => m.length - i) 0 ?_ ?_ ?_
    ·exact Nat.zero_le _
    ·exact eL [] _ _ (by refine ⟨?_, ?_⟩ <;> (repeat' first | exact fmn | refine fmc ⟨(by first | rfl | (simp (disch := omega) only [go_sem, simprocAttr, inL, List.take_zero, List.not_mem_nil, decide_false]; first | done | omega | (congr 1; done))), ?_⟩); done)
    ·intro i hil
     rcases Nat.lt_or_ge i m.length with hi2 | hi2
     ·obtain ⟨x, hx⟩ := get_some hi2
      have hu := used_succ m v hx
      rcases hb : decide (v ∈ m.take i) with _ | _
      ·rw [hb] at hu
       by_cases d : x = v
       ·subst d
        rw [decide_eq_true rfl] at hu
        repeat' first | refine pw_step rfl ?_ | refine pw_ret ?_ | refine wR ?_ | (refine wpG_split rfl rfl (fun hc => ?_) (fun hc => ?_) <;> try simp only [hcL] at hc) | (refine pw_cond _ rfl rfl (fun hc => ?_) (fun hc => ?_) <;> (try simp only [hcL] at hc) <;> try omega) | simp (disch := omega) only [go_sem, simprocAttr, hx, List.length_map] | apply And.intro | omega | decide +kernel
        refine ⟨i + 1, ?_, eL [] _ _ (by refine ⟨?_, ?_⟩ <;> (repeat' first | exact fmn | refine fmc ⟨(by first | rfl | (simp (disch := omega) only [go_sem, simprocAttr, inL, hu, Bool.false_or]; first | done | omega | (congr 1; done))), ?_⟩); done), ?_⟩
        ·omega
        ·omega
       ·rw [decide_eq_false d] at hu
        have d' : ¬ (x : Int) = v := by omega
        repeat' first | refine pw_step rfl ?_ | refine pw_ret ?_ | refine wR ?_ | (refine wpG_split rfl rfl (fun hc => ?_) (fun hc => ?_) <;> try simp only [hcL] at hc) | (refine pw_cond _ rfl rfl (fun hc => ?_) (fun hc => ?_) <;> (try simp only [hcL] at hc) <;> try omega) | simp (disch := omega) only [go_sem, simprocAttr, hx, List.length_map, d'] | apply And.intro | omega | decide +kernel
        refine ⟨i + 1, ?_, eL [] _ _ (by refine ⟨?_, ?_⟩ <;> (repeat' first | exact fmn | refine fmc ⟨(by first | rfl | (simp (disch := omega) only [go_sem, simprocAttr, inL, hu, Bool.or_self]; first | done | omega | (congr 1; done))), ?_⟩); done), ?_⟩
        ·omega
        ·omega
      ·rw [hb] at hu
       repeat' first | refine pw_step rfl ?_ | refine pw_ret ?_ | refine wR ?_ | (refine wpG_split rfl rfl (fun hc => ?_) (fun hc => ?_) <;> try simp only [hcL] at hc) | (refine pw_cond _ rfl rfl (fun hc => ?_) (fun hc => ?_) <;> (try simp only [hcL] at hc) <;> try omega) | simp (disch := omega) only [go_sem, simprocAttr, hx, List.length_map] | apply And.intro | omega | decide +kernel
       refine ⟨i + 1, ?_, eL [] _ _ (by refine ⟨?_, ?_⟩ <;> (repeat' first | exact fmn | refine fmc ⟨(by first | rfl | (simp (disch := omega) only [go_sem, simprocAttr, inL, hu, Bool.true_or]; first | done | omega | (congr 1; done))), ?_⟩); done), ?_⟩
       ·omega
       ·omega
     ·have him : i = m.length := by omega
      subst him
      rw [List.take_length]
      by_cases c : v ∈ m
      ·rw [decide_eq_true c]
       have e : srchK n l f m (v + 1) = srchK n l f m v := by rw [srchK, if_pos c]
       repeat' first | refine pw_step rfl ?_ | refine pw_ret ?_ | refine wR ?_ | (refine wpG_split rfl rfl (fun hc => ?_) (fun hc => ?_) <;> try simp only [hcL] at hc) | (refine pw_cond _ rfl rfl (fun hc => ?_) (fun hc => ?_) <;> (try simp only [hcL] at hc) <;> try omega) | simp (disch := omega) only [go_sem, simprocAttr, List.length_map] | apply And.intro | omega | decide +kernel
       refine ⟨v + 1, ?_, eL [] _ _ (by refine ⟨?_, ?_⟩ <;> (repeat' first | exact fmn | refine fmc ⟨(by first | rfl | (simp (disch := omega) only [go_sem, simprocAttr, inL, e]; first | done | omega | (congr 1; done))), ?_⟩); done), ?_⟩
       ·omega
       ·omega
      ·rw [decide_eq_false c]
       have hP' := hP.snoc hlt c
       have ih := IH (m ++ [v]) hP'
       have e : srchK n l f m (v + 1) = betterS (srchK n l f m v) (srch n l f (m ++ [v])) := by rw [srchK, if_neg c]
       have hsl := Go.Cy.srch_len n l hP'
       obtain ⟨s, hs⟩ : ∃ s, s = srch n l f (m ++ [v]) := ⟨_, rfl⟩
       rw [← hs] at ih e hsl
       simp only [List.length_append, List.length_cons, List.length_nil, List.map_append, List.map_cons, List.map_nil, Nat.zero_add] at ih
       rcases hst : srchK n l f m v with _ | b
       ·rw [hst] at e
        have e1 : outS none = [] := rfl
        have e2 : (none : Option (List Nat)).isSome = false := rfl
        have e3 : betterS none s = some s := rfl
        rw [e1, e2]
        repeat' first | refine pw_step rfl ?_ | refine pw_ret ?_ | refine pw_region (Nat.beq 44) hmix ?_ | refine rcM [(1000, 52), (2000, 903)] (ih) rfl ?_ | (refine wpG_split rfl rfl (fun hc => ?_) (fun hc => ?_) <;> try simp only [hcL] at hc) | (refine pw_cond _ rfl rfl (fun hc => ?_) (fun hc => ?_) <;> (try simp only [hcL] at hc) <;> try omega) | simp (disch := omega) only [go_sem, simprocAttr, List.length_map, take_map_len, roomy] | (first | exact nat_cells m | exact nat_one _) | apply And.intro | omega | decide +kernel
        refine ⟨v + 1, ?_, eL [(902, 903)] _ _ (by refine ⟨?_, ?_⟩ <;> (repeat' first | exact fmn | refine fmc ⟨(by first | rfl | (simp (disch := omega) only [go_sem, simprocAttr, inL, e, e3, outS, Option.getD_some, Option.isSome_some]; first | done | omega | (congr 1; done))), ?_⟩); done), ?_⟩
        ·omega
        ·omega
       ·rw [hst] at e
        have e1 : outS (some b) = b := rfl
        have e2 : (some b : Option (List Nat)).isSome = true := rfl
        rw [e1, e2]
        have hls := rless_spec s b
        rcases hl2 : lessS s b with _ | _
        ·have e3 : betterS (some b) s = some b := by simp [betterS, hl2]
         rw [hl2] at hls
         repeat' first | refine pw_step rfl ?_ | refine pw_ret ?_ | refine pw_region (Nat.beq 44) hmix ?_ | refine rcM [(1000, 52), (2000, 903)] (ih) rfl ?_ | (refine rc (hls) rfl ?_ ?_; (· first | rfl | simp (disch := omega) only [go_sem, simprocAttr, List.length_map, take_map_len, roomy])) | (refine wpG_split rfl rfl (fun hc => ?_) (fun hc => ?_) <;> try simp only [hcL] at hc) | (refine pw_cond _ rfl rfl (fun hc => ?_) (fun hc => ?_) <;> (try simp only [hcL] at hc) <;> try omega) | simp (disch := omega) only [go_sem, simprocAttr, List.length_map, take_map_len, roomy] | (first | exact nat_cells m | exact nat_one _) | apply And.intro | omega | decide +kernel
         refine ⟨v + 1, ?_, eL [] _ _ (by refine ⟨?_, ?_⟩ <;> (repeat' first | exact fmn | refine fmc ⟨(by first | rfl | (simp (disch := omega) only [go_sem, simprocAttr, inL, e, e3, outS, Option.getD_some, Option.isSome_some]; first | done | omega | (congr 1; done))), ?_⟩); done), ?_⟩
         ·omega
         ·omega
        ·have e3 : betterS (some b) s = some s := by simp [betterS, hl2]
         rw [hl2] at hls
         repeat' first | refine pw_step rfl ?_ | refine pw_ret ?_ | refine pw_region (Nat.beq 44) hmix ?_ | refine rcM [(1000, 52), (2000, 903)] (ih) rfl ?_ | (refine rc (hls) rfl ?_ ?_; (· first | rfl | simp (disch := omega) only [go_sem, simprocAttr, List.length_map, take_map_len, roomy])) | (refine wpG_split rfl rfl (fun hc => ?_) (fun hc => ?_) <;> try simp only [hcL] at hc) | (refine pw_cond _ rfl rfl (fun hc => ?_) (fun hc => ?_) <;> (try simp only [hcL] at hc) <;> try omega) | simp (disch := omega) only [go_sem, simprocAttr, List.length_map, take_map_len, roomy] | (first | exact nat_cells m | exact nat_one _) | apply And.intro | omega | decide +kernel
         refine ⟨v + 1, ?_, eL [(902, 903)] _ _ (by refine ⟨?_, ?_⟩ <;> (repeat' first | exact fmn | refine fmc ⟨(by first | rfl | (simp (disch := omega) only [go_sem, simprocAttr, inL, e, e3, outS, Option.getD_some, Option.isSome_some]; first | done | omega | (congr 1; done))), ?_⟩); done), ?_⟩
         ·omega
         ·omega
   ·have hvn : n = v := by omega
    subst hvn
    repeat' first | refine pw_step rfl ?_ | refine pw_ret ?_ | refine wR ?_ | (refine wpG_split rfl rfl (fun hc => ?_) (fun hc => ?_) <;> try simp only [hcL] at hc) | (refine pw_cond _ rfl rfl (fun hc => ?_) (fun hc => ?_) <;> (try simp only [hcL] at hc) <;> try omega) | simp (disch := omega) only [go_sem, simprocAttr] | apply And.intro | omega | decide +kernel
    exact ret_ref (o := 902) rfl rfl (by simp) (by rw [List.take_of_length_le (by simp)])
set_option maxHeartbeats 4000000 in
theorem search_top (n : Nat) (l : List NA) (hi : InN n l) (h8 : n ≤ 8) (hll : l.length ≤ 256) : CallsTo Tryd.prog 31 [gD ((n : Int), castA l), .sl []] (natsD (leastS n l)) := by
 rw [← Go.Cy.srch_least h8 hi (by omega)]
 cases n with
 | zero =>
  have hb := rBackward_spec 0 l [] hi (by omega) hll ⟨List.nodup_nil, by simp, rfl⟩
  have e : srch 0 l 0 [] = backL [] l := by rw [srch]
  rw [e]
  refine callsTo_of Tryd.func31 rfl (by decide +kernel) (Nat.le_of_ble_eq_true rfl) ?_
  intro hat B X w0
  repeat' first | refine pw_step rfl ?_ | refine pw_ret ?_ | refine wR ?_ | (refine rc (hb) rfl ?_ ?_; (· first | rfl | simp (disch := omega) only [go_sem, simprocAttr])) | (refine wpG_split rfl rfl (fun hc => ?_) (fun hc => ?_) <;> try simp only [hcL] at hc) | (refine pw_cond _ rfl rfl (fun hc => ?_) (fun hc => ?_) <;> (try simp only [hcL] at hc) <;> try omega) | simp (disch := omega) only [go_sem, simprocAttr] | apply And.intro | omega | decide +kernel
  exact rfl
 | succ f => exact search_data (f + 1) l hi (by omega) hll f [] ⟨List.nodup_nil, by simp, by simp⟩
theorem rLeast_bad (g : Gr) (h : gOk g = false) : CallsTo Tryd.prog 17 [gD g] (.tup [.sl [], .int 1]) := by
 have hv : CallsTo Tryd.prog 12 [gD g] (.bool false) := h ▸ rValid_spec g
 refine callsTo_of Tryd.func17 rfl (by decide +kernel) (Nat.le_of_ble_eq_true rfl) ?_
 intro hat B X w0
 repeat' first | refine pw_step rfl ?_ | refine pw_ret ?_ | refine wR ?_ | (refine rc (hv) rfl ?_ ?_; (· first | rfl | simp (disch := omega) only [go_sem, simprocAttr])) | (refine wpG_split rfl rfl (fun hc => ?_) (fun hc => ?_) <;> try simp only [hcL] at hc) | (refine pw_cond _ rfl rfl (fun hc => ?_) (fun hc => ?_) <;> (try simp only [hcL] at hc) <;> try omega) | simp (disch := omega) only [go_sem, simprocAttr] | apply And.intro | omega | decide +kernel
 exact ⟨_, rfl, rfl, rfl, trivial⟩
theorem rLeast_big (g : Gr) (h : gOk g = true) (h8 : 8 < g.1) : CallsTo Tryd.prog 17 [gD g] (.tup [.sl [], .int 2]) := by
 have hv : CallsTo Tryd.prog 12 [gD g] (.bool true) := h ▸ rValid_spec g
 refine callsTo_of Tryd.func17 rfl (by decide +kernel) (Nat.le_of_ble_eq_true rfl) ?_
 intro hat B X w0
 repeat' first | refine pw_step rfl ?_ | refine pw_ret ?_ | refine wR ?_ | (refine rc (hv) rfl ?_ ?_; (· first | rfl | simp (disch := omega) only [go_sem, simprocAttr])) | (refine wpG_split rfl rfl (fun hc => ?_) (fun hc => ?_) <;> try simp only [hcL] at hc) | (refine pw_cond _ rfl rfl (fun hc => ?_) (fun hc => ?_) <;> (try simp only [hcL] at hc) <;> try omega) | simp (disch := omega) only [go_sem, simprocAttr] | apply And.intro | omega | decide +kernel
 exact ⟨_, rfl, rfl, rfl, trivial⟩
theorem rLeast_ok (n : Nat) (l : List NA) (h : gOk ((n : Int), castA l) = true) (hi : InN n l) (hll : l.length ≤ 256) (h8 : n ≤ 8) : CallsTo Tryd.prog 17 [gD ((n : Int), castA l)] (.tup [natsD (leastS n l), .int 0]) := by
 have hv : CallsTo Tryd.prog 12 [gD ((n : Int), castA l)] (.bool true) := h ▸ rValid_spec _
 have hs := search_top n l hi h8 hll
 refine callsTo_of Tryd.func17 rfl (by decide +kernel) (Nat.le_of_ble_eq_true rfl) ?_
 intro hat B X w0
 repeat' first | refine pw_step rfl ?_ | refine pw_ret ?_ | refine wR ?_ | (refine rc (hv) rfl ?_ ?_; (· first | rfl | simp (disch := omega) only [go_sem, simprocAttr])) | (refine rc (hs) rfl ?_ ?_; (· first | rfl | simp (disch := omega) only [go_sem, simprocAttr])) | (refine wpG_split rfl rfl (fun hc => ?_) (fun hc => ?_) <;> try simp only [hcL] at hc) | (refine pw_cond _ rfl rfl (fun hc => ?_) (fun hc => ?_) <;> (try simp only [hcL] at hc) <;> try omega) | simp (disch := omega) only [go_sem, simprocAttr] | apply And.intro | omega | decide +kernel
 exact ⟨_, rfl, rfl, rfl, trivial⟩
theorem rBreak_bad (g : Gr) (h : gOk g = false) : CallsTo Tryd.prog 19 [gD g] (.tup [.sl [], gD (0, [])]) := by
 have hv : CallsTo Tryd.prog 12 [gD g] (.bool false) := h ▸ rValid_spec g
 refine callsTo_of Tryd.func19 rfl (by decide +kernel) (Nat.le_of_ble_eq_true rfl) ?_
 intro hat B X w0
 repeat' first | refine pw_step rfl ?_ | refine pw_ret ?_ | refine wR ?_ | (refine rc (hv) rfl ?_ ?_; (· first | rfl | simp (disch := omega) only [go_sem, simprocAttr])) | (refine wpG_split rfl rfl (fun hc => ?_) (fun hc => ?_) <;> try simp only [hcL] at hc) | (refine pw_cond _ rfl rfl (fun hc => ?_) (fun hc => ?_) <;> (try simp only [hcL] at hc) <;> try omega) | simp (disch := omega) only [go_sem, simprocAttr] | apply And.intro | omega | decide +kernel
 refine ⟨_, rfl, ?_, ⟨_, _, _, _, rfl, ?_⟩, trivial⟩
 ·rfl
 ·simp (disch := omega) only [go_sem, simprocAttr]
  rfl
set_option maxHeartbeats 4000000 in
theorem rBreak_ok (n : Nat) (l : List NA) (h : gOk ((n : Int), castA l) = true) (hi : InN n l) (hn : n ≤ 64) (hll : l.length ≤ 256) : CallsTo Tryd.prog 19 [gD ((n : Int), castA l)] (.tup [natsD (breakS n l), gD ((n : Int), castA (flipN l (breakS n l)))]) := by
 have hv : CallsTo Tryd.prog 12 [gD ((n : Int), castA l)] (.bool true) := h ▸ rValid_spec _
 have hF := rflip_spec n l (breakS n l) hll (break_ok n l hi hll).1
 by_cases h8 : n ≤ 8
 ·have hl := rLeast_ok n l h hi hll h8
  have e : breakS n l = leastS n l := if_pos h8
  rw [← e] at hl
  refine callsTo_of Tryd.func19 rfl (by decide +kernel) (Nat.le_of_ble_eq_true rfl) ?_
  intro hat B X w0
  repeat' first | refine pw_step rfl ?_ | refine pw_ret ?_ | refine wR ?_ | (refine rc (hv) rfl ?_ ?_; (· first | rfl | simp (disch := omega) only [go_sem, simprocAttr])) | (refine rc (hl) rfl ?_ ?_; (· first | rfl | simp (disch := omega) only [go_sem, simprocAttr])) | (refine rc (hF) rfl ?_ ?_; (· first | rfl | simp (disch := omega) only [go_sem, simprocAttr])) | (refine wpG_split rfl rfl (fun hc => ?_) (fun hc => ?_) <;> try simp only [hcL] at hc) | (refine pw_cond _ rfl rfl (fun hc => ?_) (fun hc => ?_) <;> (try simp only [hcL] at hc) <;> try omega) | simp (disch := omega) only [go_sem, simprocAttr] | apply And.intro | omega | decide +kernel
  refine ⟨_, rfl, ?_, ⟨_, _, _, _, rfl, ?_⟩, trivial⟩
  ·rfl
  ·simp (disch := omega) only [go_sem, simprocAttr]
 ·have hl := rLeast_big ((n : Int), castA l) h (by dsimp only; omega)
  have hg := rGreedy_ok n l h hi hn hll
  have e : breakS n l = backL (greedyO n l) l := if_neg h8
  rw [← e] at hg
  refine callsTo_of Tryd.func19 rfl (by decide +kernel) (Nat.le_of_ble_eq_true rfl) ?_
  intro hat B X w0
  repeat' first | refine pw_step rfl ?_ | refine pw_ret ?_ | refine wR ?_ | (refine rc (hv) rfl ?_ ?_; (· first | rfl | simp (disch := omega) only [go_sem, simprocAttr])) | (refine rc (hl) rfl ?_ ?_; (· first | rfl | simp (disch := omega) only [go_sem, simprocAttr])) | (refine rc (hg) rfl ?_ ?_; (· first | rfl | simp (disch := omega) only [go_sem, simprocAttr])) | (refine rc (hF) rfl ?_ ?_; (· first | rfl | simp (disch := omega) only [go_sem, simprocAttr])) | (refine wpG_split rfl rfl (fun hc => ?_) (fun hc => ?_) <;> try simp only [hcL] at hc) | (refine pw_cond _ rfl rfl (fun hc => ?_) (fun hc => ?_) <;> (try simp only [hcL] at hc) <;> try omega) | simp (disch := omega) only [go_sem, simprocAttr] | apply And.intro | omega | decide +kernel
  refine ⟨_, rfl, ?_, ⟨_, _, _, _, rfl, ?_⟩, trivial⟩
  ·rfl
  ·simp (disch := omega) only [go_sem, simprocAttr]
end Go.Proofs.YthbcmebhpabpnaaDoor
