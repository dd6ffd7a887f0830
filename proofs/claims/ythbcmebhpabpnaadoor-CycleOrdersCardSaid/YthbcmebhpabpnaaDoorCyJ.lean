/- The greedy order: the closure that finds a vertex, and the order. -/
import Derived.Test.YthbcmebhpabpnaaDoorCyE
set_option linter.unusedSimpArgs false
set_option linter.unusedVariables false
namespace Go.Proofs.YthbcmebhpabpnaaDoor
open Go Go.PS Go.Proofs
open Go.Cy (NA InN inOut degO degB pickV sinkV srcV diffV bestStep bestK bestV runF greedyO)
set_option maxRecDepth 100000
attribute [local irreducible] wpRun wpG CallsTo CallsM

theorem isSink (o b : Int) : CallsTo Tryd.prog 40 [.int o, .int b] (.bool (decide (o = 0))) := by
 refine callsTo_of Tryd.func40 rfl (by decide +kernel) (Nat.le_of_ble_eq_true rfl) ?_
 intro hat B X w0
 repeat' first | refine pw_step rfl ?_ | refine pw_ret ?_ | refine wR ?_ | (refine wpG_split rfl rfl (fun hc => ?_) (fun hc => ?_) <;> try simp only [hcL] at hc) | (refine pw_cond _ rfl rfl (fun hc => ?_) (fun hc => ?_) <;> (try simp only [hcL] at hc) <;> try omega) | simp (disch := omega) only [go_sem, simprocAttr] | apply And.intro | omega | decide +kernel
 exact rfl
theorem isSrc (o b : Int) : CallsTo Tryd.prog 41 [.int o, .int b] (.bool (decide (b = 0))) := by
 refine callsTo_of Tryd.func41 rfl (by decide +kernel) (Nat.le_of_ble_eq_true rfl) ?_
 intro hat B X w0
 repeat' first | refine pw_step rfl ?_ | refine pw_ret ?_ | refine wR ?_ | (refine wpG_split rfl rfl (fun hc => ?_) (fun hc => ?_) <;> try simp only [hcL] at hc) | (refine pw_cond _ rfl rfl (fun hc => ?_) (fun hc => ?_) <;> (try simp only [hcL] at hc) <;> try omega) | simp (disch := omega) only [go_sem, simprocAttr] | apply And.intro | omega | decide +kernel
 exact rfl
theorem isSrc2 (o b : Int) : CallsTo Tryd.prog 42 [.int o, .int b] (.bool (decide (b = 0))) := by
 refine callsTo_of Tryd.func42 rfl (by decide +kernel) (Nat.le_of_ble_eq_true rfl) ?_
 intro hat B X w0
 repeat' first | refine pw_step rfl ?_ | refine pw_ret ?_ | refine wR ?_ | (refine wpG_split rfl rfl (fun hc => ?_) (fun hc => ?_) <;> try simp only [hcL] at hc) | (refine pw_cond _ rfl rfl (fun hc => ?_) (fun hc => ?_) <;> (try simp only [hcL] at hc) <;> try omega) | simp (disch := omega) only [go_sem, simprocAttr] | apply And.intro | omega | decide +kernel
 exact rfl
theorem inRow_take (n : Nat) (S : List Nat) : (inRow n S).take n = inRow n S := List.take_of_length_le (by rw [inRow_len]; exact Nat.le_refl n)
def optI : Option Nat → Int
 | some v => v
 | none => -1
theorem pick_succ (S : List Nat) (p : Nat → Bool) {k : Nat} (h : pickV k S p = none) (h2 : (decide (k ∈ S) && p k) = false) : pickV (k + 1) S p = none := by
 rw [pickV, List.range_succ, List.find?_append]
 rw [pickV] at h
 rw [h]; simp only [List.find?_cons, h2]; rfl
theorem pick_at (S : List Nat) (p : Nat → Bool) {n k : Nat} (hk : k < n) (h : pickV k S p = none) (h2 : (decide (k ∈ S) && p k) = true) : pickV n S p = some k := by
 have e : List.range n = List.range k ++ k :: (List.range (n - (k + 1))).map (k + 1 + ·) := by
  have h1 : List.range n = List.range (k + 1) ++ (List.range (n - (k + 1))).map (k + 1 + ·) := by
   rw [← List.range_add]; congr 1; omega
  rw [h1, List.range_succ, List.append_assoc]; rfl
 rw [pickV] at h
 rw [pickV, e, List.find?_append, h]
 simp only [List.find?_cons, h2]; rfl
set_option maxHeartbeats 4000000 in
theorem find_spec (n : Nat) (l : List NA) (S : List Nat) (f : Nat) (p : Nat → Nat → Bool) (hi : InN n l) (hn : n ≤ 64) (hll : l.length ≤ 256) (hf : ∀ o b : Nat, CallsTo Tryd.prog f [.int o, .int b] (.bool (p o b))) :
  CallsM Tryd.prog 38 [.d (.fn f []), .ptr 1000 0 0 0, .ptr 1001 0 0 0] [(1000, .cells [.int n, .d (arcsD (castA l))]), (1001, .cells [.ref 1002 1 0 n n]), (1002, .row 1 (inRow n S))] (.int (optI (pickV n S fun v => p (degO l S v) (degB l S v)))) [(1000, .cells [.int n, .d (arcsD (castA l))]), (1001, .cells [.ref 1002 1 0 n n]), (1002, .row 1 (inRow n S))] := by
 refine callsM_of Tryd.func38 rfl (by decide +kernel) (Nat.le_of_ble_eq_true rfl) rfl (nodup_of rfl) rfl rfl rfl ?_
 intro B X w0
 repeat' first | refine pw_step rfl ?_ | refine pw_ret ?_ | refine wR ?_ | (refine wpG_split rfl rfl (fun hc => ?_) (fun hc => ?_) <;> try simp only [hcL] at hc) | (refine pw_cond _ rfl rfl (fun hc => ?_) (fun hc => ?_) <;> (try simp only [hcL] at hc) <;> try omega) | simp (disch := omega) only [go_sem, simprocAttr] | apply And.intro | omega | decide +kernel
 refine pw_loopI (κ := Nat) (fun (k : Nat) => k ≤ n ∧ pickV k S (fun v => p (degO l S v) (degB l S v)) = none) (fun (k : Nat) => [(0, .d (.fn f [])), (1, .ptr 1000 0 0 0), (2, .ptr 1001 0 0 0), (7, .int n), (8, .int k)]) (fun (k : Nat) => [(1000, .cells [.int n, .d (arcsD (castA l))]), (1001, .cells [.ref 1002 1 0 n n]), (1002, .row 1 (inRow n S))]) (fun (k : Nat) => n - k) 0 ?_ ?_ ?_
 ·exact ⟨Nat.zero_le _, rfl⟩
 ·exact eL [] _ _ (by refine ⟨?_, ?_⟩ <;> (repeat' first | exact fmn | refine fmc ⟨(by first | rfl | (simp (disch := omega) only [go_sem, simprocAttr, inL]; first | done | omega | (congr 1; done))), ?_⟩); done)
 ·rintro k ⟨hk, hinv⟩
  rcases Nat.lt_or_ge k n with hlt | hge
  ·have hg := inRow_get S hlt
   by_cases c1 : k ∈ S
   ·rw [decide_eq_true c1] at hg
    have hd := degrees_spec n l S k hi hll
    have hp := hf (degO l S k) (degB l S k)
    rcases hb : p (degO l S k) (degB l S k) with _ | _
    ·rw [hb] at hp
     repeat' first | refine pw_step rfl ?_ | refine pw_ret ?_ | refine wR ?_ | (refine rc (hd) rfl ?_ ?_; (· first | rfl | simp (disch := omega) only [go_sem, simprocAttr, hg, inRow_len, inRow_take])) | (refine rc (hp) rfl ?_ ?_; (· first | rfl | simp (disch := omega) only [go_sem, simprocAttr, hg, inRow_len, inRow_take])) | (refine wpG_split rfl rfl (fun hc => ?_) (fun hc => ?_) <;> try simp only [hcL] at hc) | (refine pw_cond _ rfl rfl (fun hc => ?_) (fun hc => ?_) <;> (try simp only [hcL] at hc) <;> try omega) | simp (disch := omega) only [go_sem, simprocAttr, hg, inRow_len, inRow_take] | apply And.intro | omega | decide +kernel
     refine ⟨k + 1, ?_, eL [] _ _ (by refine ⟨?_, ?_⟩ <;> (repeat' first | exact fmn | refine fmc ⟨(by first | rfl | (simp (disch := omega) only [go_sem, simprocAttr, inL]; first | done | omega | (congr 1; done))), ?_⟩); done), ?_⟩
     ·exact ⟨by omega, pick_succ S _ hinv (by rw [hb, Bool.and_false])⟩
     ·omega
    ·rw [hb] at hp
     rw [pick_at S _ hlt hinv (by rw [hb, decide_eq_true c1]; rfl)]
     repeat' first | refine pw_step rfl ?_ | refine pw_ret ?_ | refine wR ?_ | (refine rc (hd) rfl ?_ ?_; (· first | rfl | simp (disch := omega) only [go_sem, simprocAttr, hg, inRow_len, inRow_take])) | (refine rc (hp) rfl ?_ ?_; (· first | rfl | simp (disch := omega) only [go_sem, simprocAttr, hg, inRow_len, inRow_take])) | (refine wpG_split rfl rfl (fun hc => ?_) (fun hc => ?_) <;> try simp only [hcL] at hc) | (refine pw_cond _ rfl rfl (fun hc => ?_) (fun hc => ?_) <;> (try simp only [hcL] at hc) <;> try omega) | simp (disch := omega) only [go_sem, simprocAttr, hg, inRow_len, inRow_take] | apply And.intro | omega | decide +kernel
     exact rfl
   ·rw [decide_eq_false c1] at hg
    repeat' first | refine pw_step rfl ?_ | refine pw_ret ?_ | refine wR ?_ | (refine wpG_split rfl rfl (fun hc => ?_) (fun hc => ?_) <;> try simp only [hcL] at hc) | (refine pw_cond _ rfl rfl (fun hc => ?_) (fun hc => ?_) <;> (try simp only [hcL] at hc) <;> try omega) | simp (disch := omega) only [go_sem, simprocAttr, hg, inRow_len] | apply And.intro | omega | decide +kernel
    refine ⟨k + 1, ?_, eL [] _ _ (by refine ⟨?_, ?_⟩ <;> (repeat' first | exact fmn | refine fmc ⟨(by first | rfl | (simp (disch := omega) only [go_sem, simprocAttr, inL]; first | done | omega | (congr 1; done))), ?_⟩); done), ?_⟩
    ·exact ⟨by omega, pick_succ S _ hinv (by rw [decide_eq_false c1]; rfl)⟩
    ·omega
  ·have hk : n = k := by omega
   subst hk
   rw [hinv]
   repeat' first | refine pw_step rfl ?_ | refine pw_ret ?_ | refine wR ?_ | (refine wpG_split rfl rfl (fun hc => ?_) (fun hc => ?_) <;> try simp only [hcL] at hc) | (refine pw_cond _ rfl rfl (fun hc => ?_) (fun hc => ?_) <;> (try simp only [hcL] at hc) <;> try omega) | simp (disch := omega) only [go_sem, simprocAttr] | apply And.intro | omega | decide +kernel
   exact rfl
end Go.Proofs.YthbcmebhpabpnaaDoor
namespace Go.Proofs.YthbcmebhpabpnaaDoor
open Go Go.PS Go.Proofs
open Go.Cy (NA InN inOut degO degB pickV sinkV srcV diffV bestStep bestK bestV runF greedyO)
set_option maxRecDepth 100000
attribute [local irreducible] wpRun wpG CallsTo CallsM

def mostI (l : List NA) (S : List Nat) : Option Nat → Int
 | some v => diffV l S v
 | none => 0
theorem diff_bd (l : List NA) (S : List Nat) (v : Nat) (h : l.length ≤ 256) : -256 ≤ diffV l S v ∧ diffV l S v ≤ 256 := by
 have := degO_le l S v
 have := degB_le l S v
 simp only [diffV]; omega
theorem inRow_all (n k : Nat) (hk : k < n) : (inRow n (List.range k)).set k (.bool true) = inRow n (List.range (k + 1)) :=
 inRow_set fun w _ => by
  by_cases c : w = k
  ·rw [if_pos c]; simp [c]
  ·rw [if_neg c, decide_eq_decide]; simp; omega
theorem inRow_rep (n : Nat) : List.replicate n (D.bool false) = inRow n (List.range 0) := by
 refine List.ext_getElem? fun k => ?_
 rw [List.getElem?_replicate]
 rcases Nat.lt_or_ge k n with hk | hk
 ·rw [inRow_get _ hk, if_pos hk]; rfl
 ·rw [List.getElem?_eq_none (by rw [inRow_len]; exact hk : (inRow n _).length ≤ k), if_neg (by omega)]
set_option maxHeartbeats 32000000 in
theorem order_spec (n : Nat) (l : List NA) (hi : InN n l) (hn : n ≤ 64) (hll : l.length ≤ 256) : CallsTo Tryd.prog 28 [gD ((n : Int), castA l)] (natsD (greedyO n l)) := by
 obtain ⟨R, hR⟩ : ∃ R, R = greedyO n l := ⟨_, rfl⟩
 rw [← hR]
 rw [greedyO] at hR
 refine callsTo_of Tryd.func28 rfl (by decide +kernel) (Nat.le_of_ble_eq_true rfl) ?_
 intro hat B X w0
 repeat' first | refine pw_step rfl ?_ | refine pw_ret ?_ | refine wR ?_ | (refine wpG_split rfl rfl (fun hc => ?_) (fun hc => ?_) <;> try simp only [hcL] at hc) | (refine pw_cond _ rfl rfl (fun hc => ?_) (fun hc => ?_) <;> (try simp only [hcL] at hc) <;> try omega) | simp (disch := omega) only [go_sem, simprocAttr] | apply And.intro | omega | decide +kernel
 refine pw_loopI (κ := Nat) (fun (k : Nat) => k ≤ n) (fun (k : Nat) => [(1, .ptr 1 0 0 0), (3, .ptr 3 0 0 0), (20, .int n), (21, .int k)]) (fun (k : Nat) => [(1, .cells [.int n, .d (arcsD (castA l))]), (3, .cells [.ref 900 1 0 n n]), (900, .row 1 (inRow n (List.range k)))]) (fun (k : Nat) => n - k) 0 ?_ ?_ ?_
 ·exact Nat.zero_le _
 ·exact eL [(900, 18)] _ _ (by refine ⟨?_, ?_⟩ <;> (repeat' first | exact fmn | refine fmc ⟨(by first | rfl | (simp (disch := omega) only [go_sem, simprocAttr, inL, inRow_rep]; first | done | omega | (congr 1; done))), ?_⟩); done)
 ·intro k hk
  rcases Nat.lt_or_ge k n with hlt | hge
  ·have hg := inRow_get (List.range k) hlt
   have hs := inRow_all n k hlt
   repeat' first | refine pw_step rfl ?_ | refine pw_ret ?_ | refine wR ?_ | (refine wpG_split rfl rfl (fun hc => ?_) (fun hc => ?_) <;> try simp only [hcL] at hc) | (refine pw_cond _ rfl rfl (fun hc => ?_) (fun hc => ?_) <;> (try simp only [hcL] at hc) <;> try omega) | simp (disch := omega) only [go_sem, simprocAttr, inRow_len, hg, hs] | apply And.intro | omega | decide +kernel
   refine ⟨k + 1, ?_, eL [] _ _ (by refine ⟨?_, ?_⟩ <;> (repeat' first | exact fmn | refine fmc ⟨(by first | rfl | (simp (disch := omega) only [go_sem, simprocAttr, inL]; first | done | omega | (congr 1; done))), ?_⟩); done), ?_⟩
   ·omega
   ·omega
  ·have hk : n = k := by omega
   subst hk
   repeat' first | refine pw_step rfl ?_ | refine pw_ret ?_ | refine wR ?_ | (refine wpG_split rfl rfl (fun hc => ?_) (fun hc => ?_) <;> try simp only [hcL] at hc) | (refine pw_cond _ rfl rfl (fun hc => ?_) (fun hc => ?_) <;> (try simp only [hcL] at hc) <;> try omega) | simp (disch := omega) only [go_sem, simprocAttr] | apply And.intro | omega | decide +kernel
   refine eR [] [(1, .ptr 1 0 0 0), (3, .ptr 3 0 0 0), (5, .nilS), (6, .nilS), (7, .fn 38 [.ptr 1 0 0 0, .ptr 3 0 0 0]), (8, .int n)] [(1, .cells [.int n, .d (arcsD (castA l))]), (3, .cells [.ref 900 1 0 n n]), (900, .row 1 (inRow n (List.range n)))] (by refine ⟨?_, ?_⟩ <;> (repeat' first | exact fmn | refine fmc ⟨(by first | rfl | (simp (disch := omega) only [go_sem, simprocAttr, inL]; first | done | omega | (congr 1; done))), ?_⟩); done) ?_
   refine pw_ent _ (ent_nil 5 901 1 rfl rfl) ?_
   refine pw_ent _ (ent_nil 6 902 1 rfl rfl) ?_
   refine pw_loopI (κ := List Nat × List Nat × List Nat × Nat) (fun (q : List Nat × List Nat × List Nat × Nat) => match q with | (S, f, s, m) => S.Nodup ∧ (∀ v, v ∈ S → v < n) ∧ f.length + s.length + S.length ≤ n ∧ 4 * S.length + 4 ≤ m ∧ R = runF n l m 0 S f s) (fun (q : List Nat × List Nat × List Nat × Nat) => match q with | (S, f, s, m) => [(1, .ptr 1 0 0 0), (3, .ptr 3 0 0 0), (5, .ref 901 1 0 f.length f.length), (6, .ref 902 1 0 s.length s.length), (7, .fn 38 [.ptr 1 0 0 0, .ptr 3 0 0 0]), (8, .int S.length)]) (fun (q : List Nat × List Nat × List Nat × Nat) => match q with | (S, f, s, m) => [(1, .cells [.int n, .d (arcsD (castA l))]), (3, .cells [.ref 900 1 0 n n]), (900, .row 1 (inRow n S)), (901, .row 1 (f.map natD)), (902, .row 1 (s.map natD))]) (fun (q : List Nat × List Nat × List Nat × Nat) => match q with | (S, f, s, m) => S.length) (List.range n, [], [], 4 * n + 4) ?_ ?_ ?_
   ·exact ⟨List.nodup_range, fun v hv => List.mem_range.1 hv, by simp, by simp, hR⟩
   ·exact eL [] _ _ (by refine ⟨?_, ?_⟩ <;> (repeat' first | exact fmn | refine fmc ⟨(by first | rfl | (simp (disch := omega) only [go_sem, simprocAttr, inL, List.length_range]; first | done | omega | (congr 1; done))), ?_⟩); done)
   ·rintro ⟨S, f, s, m⟩ ⟨hnd, hlt, hsz, hm, hr⟩
    dsimp only at hnd hlt hsz hm hr ⊢
    rcases Nat.eq_zero_or_pos S.length with h0 | hpos
    ·have hS : S = [] := List.eq_nil_of_length_eq_zero h0
     subst hS
     rw [Go.Cy.runF_nil] at hr
     subst hr
     repeat' first | refine pw_step rfl ?_ | refine pw_ret ?_ | refine wR ?_ | (refine wpG_split rfl rfl (fun hc => ?_) (fun hc => ?_) <;> try simp only [hcL] at hc) | (refine pw_cond _ rfl rfl (fun hc => ?_) (fun hc => ?_) <;> (try simp only [hcL] at hc) <;> try omega) | simp (disch := omega) only [go_sem, simprocAttr, roomy, take_map_len] | (first | exact nat_cells s | exact nat_cells f) | apply And.intro | omega | decide +kernel
     exact ret_ref (o := 105) rfl rfl (by simp) (by rw [List.take_of_length_le (by simp)]; simp)
    ·obtain ⟨m, rfl⟩ : ∃ k, m = k + 1 := ⟨m - 1, by omega⟩
     rw [runF] at hr
     have hsink := find_spec n l S 40 (fun o _ => decide (o = 0)) hi hn hll (fun o b => by have := isSink o b; rwa [show decide ((o : Int) = 0) = decide (o = 0) from decide_eq_decide.2 (by omega)] at this)
     have hsk : pickV n S (fun v => decide (degO l S v = 0)) = sinkV n l S := rfl
     rw [hsk] at hsink
     rcases hv : sinkV n l S with _ | v
     ·rw [hv] at hsink hr
      dsimp only at hr
      have hopt : optI none = -1 := rfl
      rw [hopt] at hsink
      have hsrc := find_spec n l S 41 (fun _ b => decide (b = 0)) hi hn hll (fun o b => by have := isSrc o b; rwa [show decide ((b : Int) = 0) = decide (b = 0) from decide_eq_decide.2 (by omega)] at this)
      have hsk2 : pickV n S (fun v => decide (degB l S v = 0)) = srcV n l S := rfl
      rw [hsk2] at hsrc
      repeat' first | refine pw_step rfl ?_ | refine pw_ret ?_ | refine pw_region (Nat.beq 38) hmix ?_ | refine rcM [(1000, 1), (1001, 3), (1002, 900)] (hsink) rfl ?_ | refine rcM [(1000, 1), (1001, 3), (1002, 900)] (hsrc) rfl ?_ | (refine wpG_split rfl rfl (fun hc => ?_) (fun hc => ?_) <;> try simp only [hcL] at hc) | (refine pw_cond _ rfl rfl (fun hc => ?_) (fun hc => ?_) <;> (try simp only [hcL] at hc) <;> try omega) | simp (disch := omega) only [go_sem, simprocAttr] | apply And.intro | omega | decide +kernel
      refine pw_loopI (κ := List Nat × List Nat × Nat) (fun (q : List Nat × List Nat × Nat) => match q with | (S', f', m') => S'.Nodup ∧ (∀ v, v ∈ S' → v < n) ∧ f'.length + s.length + S'.length ≤ n ∧ S'.length ≤ S.length ∧ 4 * S'.length + 3 ≤ m' ∧ R = runF n l m' 1 S' f' s) (fun (q : List Nat × List Nat × Nat) => match q with | (S', f', m') => [(1, .ptr 1 0 0 0), (3, .ptr 3 0 0 0), (5, .ref 901 1 0 f'.length f'.length), (6, .ref 902 1 0 s.length s.length), (7, .fn 38 [.ptr 1 0 0 0, .ptr 3 0 0 0]), (8, .int S'.length), (10, .int (optI (srcV n l S')))]) (fun (q : List Nat × List Nat × Nat) => match q with | (S', f', m') => [(1, .cells [.int n, .d (arcsD (castA l))]), (3, .cells [.ref 900 1 0 n n]), (900, .row 1 (inRow n S')), (901, .row 1 (f'.map natD)), (902, .row 1 (s.map natD))]) (fun (q : List Nat × List Nat × Nat) => match q with | (S', f', m') => S'.length) (S, f, m) ?_ ?_ ?_
      ·exact ⟨hnd, hlt, hsz, Nat.le_refl _, by omega, hr⟩
      ·exact eL [] _ _ (by refine ⟨?_, ?_⟩ <;> (repeat' first | exact fmn | refine fmc ⟨(by first | rfl | (simp (disch := omega) only [go_sem, simprocAttr, inL]; first | done | omega | (congr 1; done))), ?_⟩); done)
      ·rintro ⟨S', f', m'⟩ ⟨hnd', hlt', hsz', hSS, hm', hr'⟩
       dsimp only at hnd' hlt' hsz' hSS hm' hr' ⊢
       obtain ⟨m', rfl⟩ : ∃ k, m' = k + 1 := ⟨m' - 1, by omega⟩
       rw [runF] at hr'
       rcases hv' : srcV n l S' with _ | v
       ·rw [hv'] at hr'
        dsimp only at hr'
        rw [hopt]
        repeat' first | refine pw_step rfl ?_ | refine pw_ret ?_ | refine wR ?_ | (refine wpG_split rfl rfl (fun hc => ?_) (fun hc => ?_) <;> try simp only [hcL] at hc) | (refine pw_cond _ rfl rfl (fun hc => ?_) (fun hc => ?_) <;> (try simp only [hcL] at hc) <;> try omega) | simp (disch := omega) only [go_sem, simprocAttr] | apply And.intro | omega | decide +kernel
        refine pw_loopI (κ := Nat) (fun (j : Nat) => j ≤ n) (fun (j : Nat) => [(1, .ptr 1 0 0 0), (3, .ptr 3 0 0 0), (5, .ref 901 1 0 f'.length f'.length), (6, .ref 902 1 0 s.length s.length), (7, .fn 38 [.ptr 1 0 0 0, .ptr 3 0 0 0]), (8, .int S'.length), (11, .int (optI (bestK l S' j))), (12, .int (mostI l S' (bestK l S' j))), (62, .int n), (63, .int j)]) (fun (j : Nat) => [(1, .cells [.int n, .d (arcsD (castA l))]), (3, .cells [.ref 900 1 0 n n]), (900, .row 1 (inRow n S')), (901, .row 1 (f'.map natD)), (902, .row 1 (s.map natD))]) (fun (j : Nat) => n - j) 0 ?_ ?_ ?_
        ·exact Nat.zero_le _
        ·exact eL [] _ _ (by refine ⟨?_, ?_⟩ <;> (repeat' first | exact fmn | refine fmc ⟨(by first | rfl | (simp (disch := omega) only [go_sem, simprocAttr, inL]; first | done | omega | (congr 1; done))), ?_⟩); done)
        ·intro j hj
         rcases Nat.lt_or_ge j n with hjn | hjn
         ·have hg := inRow_get S' hjn
          have hsuc := Go.Cy.bestK_succ l S' j
          unfold bestStep at hsuc
          by_cases c1 : j ∈ S'
          ·rw [decide_eq_true c1] at hg
           rw [if_pos c1] at hsuc
           have hd := degrees_spec n l S' j hi hll
           have bj := diff_bd l S' j hll
           have ed : ((degO l S' j : Nat) : Int) - (degB l S' j : Nat) = diffV l S' j := rfl
           rcases hbk : bestK l S' j with _ | b
           ·rw [hbk] at hsuc
            dsimp only at hsuc
            have e1 : optI none = -1 := rfl
            have e2 : mostI l S' none = 0 := rfl
            rw [e1, e2]
            repeat' first | refine pw_step rfl ?_ | refine pw_ret ?_ | refine wR ?_ | (refine rc (hd) rfl ?_ ?_; (· first | rfl | simp (disch := omega) only [go_sem, simprocAttr, hg, inRow_len, inRow_take, ed])) | (refine wpG_split rfl rfl (fun hc => ?_) (fun hc => ?_) <;> try simp only [hcL] at hc) | (refine pw_cond _ rfl rfl (fun hc => ?_) (fun hc => ?_) <;> (try simp only [hcL] at hc) <;> try omega) | simp (disch := omega) only [go_sem, simprocAttr, hg, inRow_len, inRow_take, ed] | apply And.intro | omega | decide +kernel
            refine ⟨j + 1, ?_, eL [] _ _ (by refine ⟨?_, ?_⟩ <;> (repeat' first | exact fmn | refine fmc ⟨(by first | rfl | (simp (disch := omega) only [go_sem, simprocAttr, inL, hsuc, optI, mostI]; first | done | omega | (congr 1; done))), ?_⟩); done), ?_⟩
            ·omega
            ·omega
           ·rw [hbk] at hsuc
            dsimp only at hsuc
            have e1 : optI (some b) = (b : Int) := rfl
            have e2 : mostI l S' (some b) = diffV l S' b := rfl
            rw [e1, e2]
            by_cases c2 : diffV l S' b < diffV l S' j
            ·rw [if_pos c2] at hsuc
             repeat' first | refine pw_step rfl ?_ | refine pw_ret ?_ | refine wR ?_ | (refine rc (hd) rfl ?_ ?_; (· first | rfl | simp (disch := omega) only [go_sem, simprocAttr, hg, inRow_len, inRow_take, ed, c2])) | (refine wpG_split rfl rfl (fun hc => ?_) (fun hc => ?_) <;> try simp only [hcL] at hc) | (refine pw_cond _ rfl rfl (fun hc => ?_) (fun hc => ?_) <;> (try simp only [hcL] at hc) <;> try omega) | simp (disch := omega) only [go_sem, simprocAttr, hg, inRow_len, inRow_take, ed, c2] | apply And.intro | omega | decide +kernel
             refine ⟨j + 1, ?_, eL [] _ _ (by refine ⟨?_, ?_⟩ <;> (repeat' first | exact fmn | refine fmc ⟨(by first | rfl | (simp (disch := omega) only [go_sem, simprocAttr, inL, hsuc, optI, mostI]; first | done | omega | (congr 1; done))), ?_⟩); done), ?_⟩
             ·omega
             ·omega
            ·rw [if_neg c2] at hsuc
             repeat' first | refine pw_step rfl ?_ | refine pw_ret ?_ | refine wR ?_ | (refine rc (hd) rfl ?_ ?_; (· first | rfl | simp (disch := omega) only [go_sem, simprocAttr, hg, inRow_len, inRow_take, ed, c2])) | (refine wpG_split rfl rfl (fun hc => ?_) (fun hc => ?_) <;> try simp only [hcL] at hc) | (refine pw_cond _ rfl rfl (fun hc => ?_) (fun hc => ?_) <;> (try simp only [hcL] at hc) <;> try omega) | simp (disch := omega) only [go_sem, simprocAttr, hg, inRow_len, inRow_take, ed, c2] | apply And.intro | omega | decide +kernel
             refine ⟨j + 1, ?_, eL [] _ _ (by refine ⟨?_, ?_⟩ <;> (repeat' first | exact fmn | refine fmc ⟨(by first | rfl | (simp (disch := omega) only [go_sem, simprocAttr, inL, hsuc, optI, mostI]; first | done | omega | (congr 1; done))), ?_⟩); done), ?_⟩
             ·omega
             ·omega
          ·rw [decide_eq_false c1] at hg
           rw [if_neg c1] at hsuc
           repeat' first | refine pw_step rfl ?_ | refine pw_ret ?_ | refine wR ?_ | (refine wpG_split rfl rfl (fun hc => ?_) (fun hc => ?_) <;> try simp only [hcL] at hc) | (refine pw_cond _ rfl rfl (fun hc => ?_) (fun hc => ?_) <;> (try simp only [hcL] at hc) <;> try omega) | simp (disch := omega) only [go_sem, simprocAttr, hg, inRow_len] | apply And.intro | omega | decide +kernel
           refine ⟨j + 1, ?_, eL [] _ _ (by refine ⟨?_, ?_⟩ <;> (repeat' first | exact fmn | refine fmc ⟨(by first | rfl | (simp (disch := omega) only [go_sem, simprocAttr, inL, hsuc]; first | done | omega | (congr 1; done))), ?_⟩); done), ?_⟩
           ·omega
           ·omega
         ·have hj : n = j := by omega
          subst hj
          obtain ⟨m', rfl⟩ : ∃ k, m' = k + 1 := ⟨m' - 1, by omega⟩
          rw [runF] at hr'
          have hbs := Go.Cy.bestK_spec l S' n
          have hbv : bestV n l S' = bestK l S' n := rfl
          rw [hbv] at hr'
          rcases hbk : bestK l S' n with _ | b
          ·rw [hbk] at hr' hbs
           dsimp only at hr' hbs
           have hS' : S' = [] := by
            refine List.eq_nil_iff_forall_not_mem.2 fun u hu => hbs u (hlt' u hu) hu
           subst hS'
           rw [hopt]
           repeat' first | refine pw_step rfl ?_ | refine pw_ret ?_ | refine wR ?_ | (refine wpG_split rfl rfl (fun hc => ?_) (fun hc => ?_) <;> try simp only [hcL] at hc) | (refine pw_cond _ rfl rfl (fun hc => ?_) (fun hc => ?_) <;> (try simp only [hcL] at hc) <;> try omega) | simp (disch := omega) only [go_sem, simprocAttr] | apply And.intro | omega | decide +kernel
           refine ⟨([], f', s, 4), ?_, eL [] _ _ (by refine ⟨?_, ?_⟩ <;> (repeat' first | exact fmn | refine fmc ⟨(by first | rfl | (simp (disch := omega) only [go_sem, simprocAttr, inL]; first | done | omega | (congr 1; done))), ?_⟩); done), ?_⟩
           ·dsimp only
            exact ⟨List.nodup_nil, by simp, hsz', by simp, by rw [Go.Cy.runF_nil]; exact hr'⟩
           ·dsimp only; simpa using hpos
          ·rw [hbk] at hr' hbs
           dsimp only at hr' hbs
           obtain ⟨h1, h2, h3⟩ := hbs
           have hlen : (S'.erase b).length = S'.length - 1 := List.length_erase_of_mem h2
           have hSp := List.length_pos_of_mem h2
           have hg := inRow_get S' h1
           have hs := inRow_erase (n := n) hnd' b
           have e1 : optI (some b) = (b : Int) := rfl
           rw [e1]
           repeat' first | refine pw_step rfl ?_ | refine pw_ret ?_ | refine wR ?_ | (refine wpG_split rfl rfl (fun hc => ?_) (fun hc => ?_) <;> try simp only [hcL] at hc) | (refine pw_cond _ rfl rfl (fun hc => ?_) (fun hc => ?_) <;> (try simp only [hcL] at hc) <;> try omega) | simp (disch := omega) only [go_sem, simprocAttr, inRow_len, hg, hs, roomy, take_map_len] | exact nat_one _ | apply And.intro | omega | decide +kernel
           refine ⟨(S'.erase b, f' ++ [b], s, m'), ?_, eL [(901, 97)] _ _ (by refine ⟨?_, ?_⟩ <;> (repeat' first | exact fmn | refine fmc ⟨(by first | rfl | (simp (disch := omega) only [go_sem, simprocAttr, inL, hlen, List.length_append, List.length_singleton, List.map_append, List.map_cons, List.map_nil]; first | done | omega | (congr 1; done))), ?_⟩); done), ?_⟩
           ·dsimp only
            exact ⟨hnd'.erase b, fun u hu => hlt' u (List.mem_of_mem_erase hu), by rw [hlen, List.length_append, List.length_singleton]; omega, by omega, hr'⟩
           ·dsimp only; omega
       ·rw [hv'] at hr'
        dsimp only at hr'
        obtain ⟨h1, h2, h3⟩ := Go.Cy.pickV_some hv'
        have hlen : (S'.erase v).length = S'.length - 1 := List.length_erase_of_mem h2
        have hSp := List.length_pos_of_mem h2
        have hg := inRow_get S' h1
        have hs := inRow_erase (n := n) hnd' v
        have hopt2 : optI (some v) = (v : Int) := rfl
        rw [hopt2]
        have hsrc2 := find_spec n l (S'.erase v) 42 (fun _ b => decide (b = 0)) hi hn hll (fun o b => by have := isSrc2 o b; rwa [show decide ((b : Int) = 0) = decide (b = 0) from decide_eq_decide.2 (by omega)] at this)
        have hsk3 : pickV n (S'.erase v) (fun u => decide (degB l (S'.erase v) u = 0)) = srcV n l (S'.erase v) := rfl
        rw [hsk3] at hsrc2
        repeat' first | refine pw_step rfl ?_ | refine pw_ret ?_ | refine wR ?_ | refine rcM [(1000, 1), (1001, 3), (1002, 900)] (hsrc2) rfl ?_ | (refine wpG_split rfl rfl (fun hc => ?_) (fun hc => ?_) <;> try simp only [hcL] at hc) | (refine pw_cond _ rfl rfl (fun hc => ?_) (fun hc => ?_) <;> (try simp only [hcL] at hc) <;> try omega) | simp (disch := omega) only [go_sem, simprocAttr, inRow_len, hg, hs, roomy, take_map_len] | exact nat_one _ | apply And.intro | omega | decide +kernel
        refine ⟨(S'.erase v, f' ++ [v], m'), ?_, eL [(901, 55)] _ _ (by refine ⟨?_, ?_⟩ <;> (repeat' first | exact fmn | refine fmc ⟨(by first | rfl | (simp (disch := omega) only [go_sem, simprocAttr, inL, hlen, List.length_append, List.length_singleton, List.map_append, List.map_cons, List.map_nil]; first | done | omega | (congr 1; done))), ?_⟩); done), ?_⟩
        ·dsimp only
         exact ⟨hnd'.erase v, fun u hu => hlt' u (List.mem_of_mem_erase hu), by rw [hlen, List.length_append, List.length_singleton]; omega, by omega, by omega, hr'⟩
        ·dsimp only; omega
     ·rw [hv] at hsink hr
      dsimp only at hr
      obtain ⟨h1, h2, h3⟩ := Go.Cy.pickV_some hv
      have hlen : (S.erase v).length = S.length - 1 := List.length_erase_of_mem h2
      have hg := inRow_get S h1
      have hs := inRow_erase (n := n) hnd v
      have hopt : optI (some v) = (v : Int) := rfl
      rw [hopt] at hsink
      repeat' first | refine pw_step rfl ?_ | refine pw_ret ?_ | refine pw_region (Nat.beq 38) hmix ?_ | refine rcM [(1000, 1), (1001, 3), (1002, 900)] (hsink) rfl ?_ | (refine wpG_split rfl rfl (fun hc => ?_) (fun hc => ?_) <;> try simp only [hcL] at hc) | (refine pw_cond _ rfl rfl (fun hc => ?_) (fun hc => ?_) <;> (try simp only [hcL] at hc) <;> try omega) | simp (disch := omega) only [go_sem, simprocAttr, inRow_len, hg, hs, roomy, take_map_len] | (first | exact nat_cells s | exact nat_one _) | apply And.intro | omega | decide +kernel
      refine ⟨(S.erase v, f, v :: s, m), ?_, eL [(902, 40)] _ _ (by refine ⟨?_, ?_⟩ <;> (repeat' first | exact fmn | refine fmc ⟨(by first | rfl | (simp (disch := omega) only [go_sem, simprocAttr, inL, hlen, List.length_cons, List.map_cons]; first | done | omega | (congr 1; done))), ?_⟩); done), ?_⟩
      ·dsimp only
       exact ⟨hnd.erase v, fun u hu => hlt u (List.mem_of_mem_erase hu), by rw [hlen, List.length_cons]; omega, by omega, hr⟩
      ·dsimp only; omega
end Go.Proofs.YthbcmebhpabpnaaDoor
namespace Go.Proofs.YthbcmebhpabpnaaDoor
open Go Go.PS Go.Proofs
open Go.Cy (NA InN bwd bwdAt backL greedyO leastS flipN SetOk)
open Go.Bd (Part)
set_option maxRecDepth 100000
attribute [local irreducible] wpRun wpG CallsTo CallsM

def plF (R : List Nat) (k w : Nat) : Nat := if R.idxOf w < k then R.idxOf w else 0
theorem pl_rep (n : Nat) (R : List Nat) : List.replicate n (D.int 0) = rowN n (plF R 0) := by
 refine List.ext_getElem? fun k => ?_
 rw [List.getElem?_replicate]
 rcases Nat.lt_or_ge k n with hk | hk
 ·rw [rowN_get _ hk, if_pos hk]; rfl
 ·rw [List.getElem?_eq_none (by rw [rowN_len]; exact hk : (rowN n _).length ≤ k), if_neg (by omega)]
theorem idx_at {R : List Nat} (hn : R.Nodup) {k v : Nat} (h : R[k]? = some v) : R.idxOf v = k := by
 obtain ⟨h1, h2⟩ := List.getElem?_eq_some_iff.1 h
 have hm := List.mem_of_getElem? h
 have h3 := List.idxOf_lt_length_of_mem hm
 have h4 := List.getElem_idxOf h3
 exact (List.getElem_inj (h₀ := h3) (h₁ := h1) hn).1 (h4.trans h2.symm)
theorem pl_succ {R : List Nat} (hn : R.Nodup) {k v : Nat} (h : R[k]? = some v) (w : Nat) : plF R (k + 1) w = if w = v then k else plF R k w := by
 have hi := idx_at hn h
 by_cases c : w = v
 ·subst c; rw [if_pos rfl, plF, hi, if_pos (by omega)]
 ·rw [if_neg c, plF, plF]
  by_cases c2 : R.idxOf w < k
  ·rw [if_pos c2, if_pos (by omega)]
  ·rw [if_neg c2]
   split
   ·have h3 : R.idxOf w = k := by omega
    obtain ⟨h1, h2⟩ := List.getElem?_eq_some_iff.1 h
    exfalso; apply c
    have h4 : R.idxOf w < R.length := by omega
    have h5 := List.getElem_idxOf h4
    simp only [h3] at h5
    rw [← h5, h2]
   ·rfl
theorem pl_all {n : Nat} {R : List Nat} (h : Part n 0 R) {w : Nat} (hw : w < n) : plF R R.length w = R.idxOf w := by
 rw [plF, if_pos (List.idxOf_lt_length_of_mem (Go.Cy.Part.mem h hw))]
def backK (M : List Nat) (l : List NA) (k : Nat) : List Nat := (List.range k).filter (bwdAt M l)
theorem backK_succ (M : List Nat) {l : List NA} {k : Nat} {a : NA} (h : l[k]? = some a) : backK M l (k + 1) = if bwd M a then backK M l k ++ [k] else backK M l k := by
 rw [backK, List.range_succ, List.filter_append, List.filter_cons, bwdAt, h]
 cases hb : bwd M a <;> simp [backK, hb]
theorem backK_len (M : List Nat) (l : List NA) (k : Nat) : (backK M l k).length ≤ k := Nat.le_trans (List.length_filter_le _ _) (by simp)
theorem Greedy_bad (g : Gr) (h : gOk g = false) : CallsTo Tryd.prog 14 [gD g] (.sl []) := by
 have hv : CallsTo Tryd.prog 23 [gD g] (.bool false) := h ▸ Valid_spec g
 refine callsTo_of Tryd.func14 rfl (by decide +kernel) (Nat.le_of_ble_eq_true rfl) ?_
 intro hat B X w0
 repeat' first | refine pw_step rfl ?_ | refine pw_ret ?_ | refine wR ?_ | (refine rc (hv) rfl ?_ ?_; (· first | rfl | simp (disch := omega) only [go_sem, simprocAttr])) | (refine wpG_split rfl rfl (fun hc => ?_) (fun hc => ?_) <;> try simp only [hcL] at hc) | (refine pw_cond _ rfl rfl (fun hc => ?_) (fun hc => ?_) <;> (try simp only [hcL] at hc) <;> try omega) | simp (disch := omega) only [go_sem, simprocAttr] | apply And.intro | omega | decide +kernel
 exact rfl
set_option maxHeartbeats 8000000 in
theorem Greedy_ok (n : Nat) (l : List NA) (h : gOk ((n : Int), castA l) = true) (hi : InN n l) (hn : n ≤ 64) (hll : l.length ≤ 256) : CallsTo Tryd.prog 14 [gD ((n : Int), castA l)] (natsD (backL (greedyO n l) l)) := by
 have hv : CallsTo Tryd.prog 23 [gD ((n : Int), castA l)] (.bool true) := h ▸ Valid_spec _
 have hcl := castA_len l
 have hord := order_spec n l hi hn hll
 have hP := Go.Cy.greedy_part n l
 obtain ⟨R, hR⟩ : ∃ R, R = greedyO n l := ⟨_, rfl⟩
 rw [← hR] at hord hP ⊢
 have hRl : R.length = n := by have := hP.len; omega
 have hRm : (R.map natD).length = n := by rw [List.length_map, hRl]
 refine callsTo_of Tryd.func14 rfl (by decide +kernel) (Nat.le_of_ble_eq_true rfl) ?_
 intro hat B X w0
 repeat' first | refine pw_step rfl ?_ | refine pw_ret ?_ | refine wR ?_ | (refine rc (hv) rfl ?_ ?_; (· first | rfl | simp (disch := omega) only [go_sem, simprocAttr, hRl])) | (refine rc (hord) rfl ?_ ?_; (· first | rfl | simp (disch := omega) only [go_sem, simprocAttr, hRl])) | (refine wpG_split rfl rfl (fun hc => ?_) (fun hc => ?_) <;> try simp only [hcL] at hc) | (refine pw_cond _ rfl rfl (fun hc => ?_) (fun hc => ?_) <;> (try simp only [hcL] at hc) <;> try omega) | simp (disch := omega) only [go_sem, simprocAttr, hRl] | apply And.intro | omega | decide +kernel
 refine pw_loopI (κ := Nat) (fun (k : Nat) => k ≤ n) (fun (k : Nat) => [(1, .ptr 1 0 0 0), (3, .ref 14 1 0 n n), (16, .d (natsD R)), (17, .int n), (18, .int k)]) (fun (k : Nat) => [(1, .cells [.int n, .d (arcsD (castA l))]), (14, .row 1 (rowN n (plF R k)))]) (fun (k : Nat) => n - k) 0 ?_ ?_ ?_
 ·exact Nat.zero_le _
 ·exact eL [] _ _ (by refine ⟨?_, ?_⟩ <;> (repeat' first | exact fmn | refine fmc ⟨(by first | rfl | (simp (disch := omega) only [go_sem, simprocAttr, inL, pl_rep n R]; first | done | omega | (congr 1; done))), ?_⟩); done)
 ·intro k hk
  rcases Nat.lt_or_ge k n with hlt | hge
  ·obtain ⟨v, hvk⟩ := get_some (show k < R.length by omega)
   have hvn := hP.lt v (List.mem_of_getElem? hvk)
   have hg := rowN_get (plF R k) hvn
   have hs := rowN_set (n := n) (f := plF R k) (f' := plF R (k + 1)) (i := v) (x := k) (fun w _ => pl_succ hP.nd hvk w)
   repeat' first | refine pw_step rfl ?_ | refine pw_ret ?_ | refine wR ?_ | (refine wpG_split rfl rfl (fun hc => ?_) (fun hc => ?_) <;> try simp only [hcL] at hc) | (refine pw_cond _ rfl rfl (fun hc => ?_) (fun hc => ?_) <;> (try simp only [hcL] at hc) <;> try omega) | simp (disch := omega) only [go_sem, simprocAttr, hvk, hRl, hg, rowN_len, hs] | apply And.intro | omega | decide +kernel
   refine ⟨k + 1, ?_, eL [] _ _ (by refine ⟨?_, ?_⟩ <;> (repeat' first | exact fmn | refine fmc ⟨(by first | rfl | (simp (disch := omega) only [go_sem, simprocAttr, inL]; first | done | omega | (congr 1; done))), ?_⟩); done), ?_⟩
   ·omega
   ·omega
  ·have hk : n = k := by omega
   subst hk
   repeat' first | refine pw_step rfl ?_ | refine pw_ret ?_ | refine wR ?_ | (refine wpG_split rfl rfl (fun hc => ?_) (fun hc => ?_) <;> try simp only [hcL] at hc) | (refine pw_cond _ rfl rfl (fun hc => ?_) (fun hc => ?_) <;> (try simp only [hcL] at hc) <;> try omega) | simp (disch := omega) only [go_sem, simprocAttr, hcl] | apply And.intro | omega | decide +kernel
   refine eR [] [(1, .ptr 1 0 0 0), (3, .ref 14 1 0 n n), (6, .nilS), (29, .d (arcsD (castA l))), (30, .int l.length), (31, .int (0 : Nat))] [(1, .cells [.int n, .d (arcsD (castA l))]), (14, .row 1 (rowN n (plF R n)))] (by refine ⟨?_, ?_⟩ <;> (repeat' first | exact fmn | refine fmc ⟨(by first | rfl | (simp (disch := omega) only [go_sem, simprocAttr, inL]; first | done | omega | (congr 1; done))), ?_⟩); done) ?_
   refine pw_ent _ (ent_nil 6 901 1 rfl rfl) ?_
   refine pw_loopI (κ := Nat) (fun (k : Nat) => k ≤ l.length) (fun (k : Nat) => [(1, .ptr 1 0 0 0), (3, .ref 14 1 0 n n), (6, .ref 901 1 0 (backK R l k).length (backK R l k).length), (29, .d (arcsD (castA l))), (30, .int l.length), (31, .int k)]) (fun (k : Nat) => [(1, .cells [.int n, .d (arcsD (castA l))]), (14, .row 1 (rowN n (plF R n))), (901, .row 1 ((backK R l k).map natD))]) (fun (k : Nat) => l.length - k) 0 ?_ ?_ ?_
   ·exact Nat.zero_le _
   ·exact eL [] _ _ (by refine ⟨?_, ?_⟩ <;> (repeat' first | exact fmn | refine fmc ⟨(by first | rfl | (simp (disch := omega) only [go_sem, simprocAttr, inL]; first | done | omega | (congr 1; done))), ?_⟩); done)
   ·intro k hk
    rcases Nat.lt_or_ge k l.length with hlt | hge
    ·obtain ⟨a, ha⟩ := get_some hlt
     have hp := castA_get ha
     have hin := hi a (List.mem_of_getElem? ha)
     have g1 := rowN_get (plF R n) hin.1
     have g2 := rowN_get (plF R n) hin.2
     have q1 := pl_all hP hin.1
     have q2 := pl_all hP hin.2
     rw [hRl] at q1 q2
     rw [q1] at g1
     rw [q2] at g2
     have hs := backK_succ R ha
     have hbl := backK_len R l k
     rw [bwd] at hs
     by_cases c : R.idxOf a.2 < R.idxOf a.1
     ·rw [decide_eq_true c, if_pos rfl] at hs
      repeat' first | refine pw_step rfl ?_ | refine pw_ret ?_ | refine wR ?_ | (refine wpG_split rfl rfl (fun hc => ?_) (fun hc => ?_) <;> try simp only [hcL] at hc) | (refine pw_cond _ rfl rfl (fun hc => ?_) (fun hc => ?_) <;> (try simp only [hcL] at hc) <;> try omega) | simp (disch := omega) only [go_sem, simprocAttr, hp, hcl, g1, g2, rowN_len, roomy, take_map_len] | exact nat_one _ | apply And.intro | omega | decide +kernel
      refine ⟨k + 1, ?_, eL [(901, 50)] _ _ (by refine ⟨?_, ?_⟩ <;> (repeat' first | exact fmn | refine fmc ⟨(by first | rfl | (simp (disch := omega) only [go_sem, simprocAttr, inL, hs, List.length_append, List.length_singleton, List.map_append, List.map_cons, List.map_nil]; first | done | omega | (congr 1; done))), ?_⟩); done), ?_⟩
      ·omega
      ·omega
     ·rw [decide_eq_false c, if_neg Bool.false_ne_true] at hs
      repeat' first | refine pw_step rfl ?_ | refine pw_ret ?_ | refine wR ?_ | (refine wpG_split rfl rfl (fun hc => ?_) (fun hc => ?_) <;> try simp only [hcL] at hc) | (refine pw_cond _ rfl rfl (fun hc => ?_) (fun hc => ?_) <;> (try simp only [hcL] at hc) <;> try omega) | simp (disch := omega) only [go_sem, simprocAttr, hp, hcl, g1, g2, rowN_len] | apply And.intro | omega | decide +kernel
      refine ⟨k + 1, ?_, eL [] _ _ (by refine ⟨?_, ?_⟩ <;> (repeat' first | exact fmn | refine fmc ⟨(by first | rfl | (simp (disch := omega) only [go_sem, simprocAttr, inL, hs]; first | done | omega | (congr 1; done))), ?_⟩); done), ?_⟩
      ·omega
      ·omega
    ·have hk : k = l.length := by omega
     subst hk
     repeat' first | refine pw_step rfl ?_ | refine pw_ret ?_ | refine wR ?_ | (refine wpG_split rfl rfl (fun hc => ?_) (fun hc => ?_) <;> try simp only [hcL] at hc) | (refine pw_cond _ rfl rfl (fun hc => ?_) (fun hc => ?_) <;> (try simp only [hcL] at hc) <;> try omega) | simp (disch := omega) only [go_sem, simprocAttr] | apply And.intro | omega | decide +kernel
     exact ret_ref (o := 901) rfl rfl (by simp) (by rw [List.take_of_length_le (by simp)]; rfl)
def breakS (n : Nat) (l : List NA) : List Nat := if n ≤ 8 then leastS n l else backL (greedyO n l) l
theorem break_ok (n : Nat) (l : List NA) (hi : InN n l) (hll : l.length ≤ 256) : Go.Cy.Brk l (breakS n l) := by
 rw [breakS]
 split
 ·rename_i h8
  obtain ⟨M, h1, h2⟩ := Go.Cy.least_back h8 hi (by omega)
  rw [← h2]; exact Go.Cy.back_brk h1 hi
 ·exact Go.Cy.back_brk (Go.Cy.greedy_part n l) hi
theorem flip_ok {n : Nat} {l : List NA} {t : List Nat} (h : gOk ((n : Int), castA l) = true) (ht : SetOk l t) : CallsTo Tryd.prog 24 [gD ((n : Int), castA l), natsD t] (.tup [gD ((n : Int), castA (flipN l t)), .int 0]) := by
 have hF := Flip_spec ((n : Int), castA l) (castL t)
 have eF : flipF ((n : Int), castA l) (castL t) = (((n : Int), castA (flipN l t)), 0) := by
  have h2 := listF_ok ht
  rw [flipF, if_pos h]
  simp only [castA_len, h2, if_true, flip_cast]
 rw [eF, intsD_castL] at hF
 exact hF
set_option maxHeartbeats 4000000 in
theorem Break_bad (g : Gr) (h : gOk g = false) : CallsTo Tryd.prog 18 [gD g] (.tup [.sl [], gD (0, [])]) := by
 have hl := Least_bad g h
 have hg := Greedy_bad g h
 have hF := Flip_spec g []
 have eF : flipF g [] = ((0, []), 1) := by rw [flipF, h]; rfl
 rw [eF] at hF
 refine callsTo_of Tryd.func18 rfl (by decide +kernel) (Nat.le_of_ble_eq_true rfl) ?_
 intro hat B X w0
 repeat' first | refine pw_step rfl ?_ | refine pw_ret ?_ | refine wR ?_ | (refine rc (hl) rfl ?_ ?_; (· first | rfl | simp (disch := omega) only [go_sem, simprocAttr])) | (refine rc (hg) rfl ?_ ?_; (· first | rfl | simp (disch := omega) only [go_sem, simprocAttr])) | (refine rc (hF) rfl ?_ ?_; (· first | rfl | simp (disch := omega) only [go_sem, simprocAttr])) | (refine wpG_split rfl rfl (fun hc => ?_) (fun hc => ?_) <;> try simp only [hcL] at hc) | (refine pw_cond _ rfl rfl (fun hc => ?_) (fun hc => ?_) <;> (try simp only [hcL] at hc) <;> try omega) | simp (disch := omega) only [go_sem, simprocAttr] | apply And.intro | omega | decide +kernel
 refine ⟨_, rfl, ?_, ⟨_, _, _, _, rfl, ?_⟩, trivial⟩
 ·rfl
 ·simp (disch := omega) only [go_sem, simprocAttr]
  rfl
set_option maxHeartbeats 8000000 in
theorem Break_ok (n : Nat) (l : List NA) (h : gOk ((n : Int), castA l) = true) (hi : InN n l) (hn : n ≤ 64) (hll : l.length ≤ 256) : CallsTo Tryd.prog 18 [gD ((n : Int), castA l)] (.tup [natsD (breakS n l), gD ((n : Int), castA (flipN l (breakS n l)))]) := by
 have hF := flip_ok h (break_ok n l hi hll).1
 by_cases h8 : n ≤ 8
 ·have hl := Least_ok n l h hi hll h8
  have e : breakS n l = leastS n l := if_pos h8
  rw [← e] at hl
  refine callsTo_of Tryd.func18 rfl (by decide +kernel) (Nat.le_of_ble_eq_true rfl) ?_
  intro hat B X w0
  repeat' first | refine pw_step rfl ?_ | refine pw_ret ?_ | refine wR ?_ | (refine rc (hl) rfl ?_ ?_; (· first | rfl | simp (disch := omega) only [go_sem, simprocAttr])) | (refine rc (hF) rfl ?_ ?_; (· first | rfl | simp (disch := omega) only [go_sem, simprocAttr])) | (refine wpG_split rfl rfl (fun hc => ?_) (fun hc => ?_) <;> try simp only [hcL] at hc) | (refine pw_cond _ rfl rfl (fun hc => ?_) (fun hc => ?_) <;> (try simp only [hcL] at hc) <;> try omega) | simp (disch := omega) only [go_sem, simprocAttr] | apply And.intro | omega | decide +kernel
  refine ⟨_, rfl, ?_, ⟨_, _, _, _, rfl, ?_⟩, trivial⟩
  ·rfl
  ·simp (disch := omega) only [go_sem, simprocAttr]
 ·have hl := Least_big ((n : Int), castA l) h (by dsimp only; omega)
  have hg := Greedy_ok n l h hi hn hll
  have e : breakS n l = backL (greedyO n l) l := if_neg h8
  rw [← e] at hg
  refine callsTo_of Tryd.func18 rfl (by decide +kernel) (Nat.le_of_ble_eq_true rfl) ?_
  intro hat B X w0
  repeat' first | refine pw_step rfl ?_ | refine pw_ret ?_ | refine wR ?_ | (refine rc (hl) rfl ?_ ?_; (· first | rfl | simp (disch := omega) only [go_sem, simprocAttr])) | (refine rc (hg) rfl ?_ ?_; (· first | rfl | simp (disch := omega) only [go_sem, simprocAttr])) | (refine rc (hF) rfl ?_ ?_; (· first | rfl | simp (disch := omega) only [go_sem, simprocAttr])) | (refine wpG_split rfl rfl (fun hc => ?_) (fun hc => ?_) <;> try simp only [hcL] at hc) | (refine pw_cond _ rfl rfl (fun hc => ?_) (fun hc => ?_) <;> (try simp only [hcL] at hc) <;> try omega) | simp (disch := omega) only [go_sem, simprocAttr] | apply And.intro | omega | decide +kernel
  refine ⟨_, rfl, ?_, ⟨_, _, _, _, rfl, ?_⟩, trivial⟩
  ·rfl
  ·simp (disch := omega) only [go_sem, simprocAttr]
end Go.Proofs.YthbcmebhpabpnaaDoor
namespace Go.Proofs.YthbcmebhpabpnaaDoor
open Go Go.PS Go.Proofs
open Go.Cy (NA InN flipN SetOk Acy Src Peel Stuck Asc)
set_option maxRecDepth 100000
attribute [local irreducible] wpRun wpG CallsTo CallsM

set_option maxHeartbeats 1000000 in
theorem rValid_spec (g : Gr) : CallsTo Tryd.prog 12 [gD g] (.bool (gOk g)) := by
 obtain ⟨n, l⟩ := g
 refine callsTo_of Tryd.func12 rfl (by decide +kernel) (Nat.le_of_ble_eq_true rfl) ?_
 intro hat B X w0
 have hl := at_len2 0 1 hat rfl rfl
 rw [List.length_map] at hl
 repeat' first | refine pw_step rfl ?_ | refine pw_ret ?_ | refine wR ?_ | (refine wpG_split rfl rfl (fun hc => ?_) (fun hc => ?_) <;> try simp only [hcL] at hc) | (refine pw_cond _ rfl rfl (fun hc => ?_) (fun hc => ?_) <;> (try simp only [hcL] at hc) <;> try omega) | simp (disch := omega) only [go_sem, simprocAttr] | apply And.intro | omega | decide +kernel
 all_goals try (refine bool_some ?_; simp [gOk]; omega)
 refine pw_loopI (κ := Nat) (fun (k : Nat) => k ≤ l.length ∧ ∀ (j : Nat) y, j < k → l[j]? = some y → (!arcIn n y) = false) (fun (k : Nat) => [(1, .ptr 1 0 0 0), (3, .int k)]) (fun (k : Nat) => [(1, .cells [.int n, .d (arcsD l)])]) (fun (k : Nat) => l.length - k) 0 ?_ ?_ ?_
 ·exact ⟨Nat.zero_le _, fun j y h => by omega⟩
 ·exact eL [] _ _ (by refine ⟨?_, ?_⟩ <;> (repeat' first | exact fmn | refine fmc ⟨(by first | rfl | (simp (disch := omega) only [go_sem, simprocAttr, inL]; first | done | omega | (congr 1; done))), ?_⟩); done)
 ·rintro k ⟨hk, hinv⟩
  rcases Nat.lt_or_ge k l.length with hlt | hge
  ·obtain ⟨p, hp⟩ := get_some hlt
   repeat' first | refine pw_step rfl ?_ | refine pw_ret ?_ | refine wR ?_ | (refine wpG_split rfl rfl (fun hc => ?_) (fun hc => ?_) <;> try simp only [hcL] at hc) | (refine pw_cond _ rfl rfl (fun hc => ?_) (fun hc => ?_) <;> (try simp only [hcL] at hc) <;> try omega) | simp (disch := omega) only [go_sem, simprocAttr, hp] | apply And.intro | omega | decide +kernel
   all_goals try
    refine bool_some ?_
    rw [gOk, any_at hp (by simp [arcIn]; omega)]; simp
   ·refine ⟨k + 1, ?_, eL [] _ _ (by refine ⟨?_, ?_⟩ <;> (repeat' first | exact fmn | refine fmc ⟨(by first | rfl | (simp (disch := omega) only [go_sem, simprocAttr, inL]; first | done | omega | (congr 1; done))), ?_⟩); done), ?_⟩
    ·exact ⟨by omega, upto_succ hinv hp (by simp [arcIn]; omega)⟩
    ·omega
  ·repeat' first | refine pw_step rfl ?_ | refine pw_ret ?_ | refine wR ?_ | (refine wpG_split rfl rfl (fun hc => ?_) (fun hc => ?_) <;> try simp only [hcL] at hc) | (refine pw_cond _ rfl rfl (fun hc => ?_) (fun hc => ?_) <;> (try simp only [hcL] at hc) <;> try omega) | simp (disch := omega) only [go_sem, simprocAttr] | apply And.intro | omega | decide +kernel
   refine bool_some ?_
   rw [gOk, any_no (fun j y hj => hinv j y (by omega))]
   simp; omega
theorem flipN_step {l : List NA} {t : List Nat} {k x : Nat} {a : NA} (ht : t[k]? = some x) (ha : l[x]? = some a) : flipN l (t.take (k + 1)) = (flipN l (t.take k)).set x (a.2, a.1) := by
 refine List.ext_getElem? fun u => ?_
 rw [List.getElem?_set, Go.Cy.flipN_len]
 rcases Nat.lt_or_ge u l.length with hu | hu
 ·obtain ⟨b, hb⟩ := get_some hu
  rw [Go.Cy.flipN_get hb, Go.Cy.flipN_get hb, take_snoc ht]
  by_cases c : x = u
  ·subst c
   rw [ha] at hb; cases hb
   simp [hu]
  ·rw [if_neg c]
   have : (u ∈ t.take k ++ [x]) ↔ u ∈ t.take k := by simp [Ne.symm c]
   by_cases c2 : u ∈ t.take k
   ·rw [if_pos c2, if_pos (this.2 c2)]
   ·rw [if_neg c2, if_neg (fun h => c2 (this.1 h))]
 ·rw [List.getElem?_eq_none (by rw [Go.Cy.flipN_len]; exact hu), List.getElem?_eq_none (by rw [Go.Cy.flipN_len]; exact hu)]
  split
  ·rw [if_neg (by omega)]
  ·rfl
theorem flipN_old {l : List NA} {t : List Nat} {k x : Nat} {a : NA} (hn : Asc t) (ht : t[k]? = some x) (ha : l[x]? = some a) : (flipN l (t.take k))[x]? = some a := by
 rw [Go.Cy.flipN_get ha, if_neg]
 intro hm
 obtain ⟨i, hi⟩ := List.mem_iff_getElem?.1 hm
 rw [List.getElem?_take] at hi
 split at hi
 ·rename_i hik
  have h1 := List.getElem?_eq_some_iff.1 hi
  have h2 := List.getElem?_eq_some_iff.1 ht
  have := (List.pairwise_iff_getElem.1 hn) i k h1.1 h2.1 hik
  rw [h1.2, h2.2] at this; omega
 ·cases hi
theorem castA_set (l : List NA) (x : Nat) (a : NA) : (castA l).set x ((a.1 : Int), (a.2 : Int)) = castA (l.set x a) := by
 rw [castA, castA, List.map_set]
set_option maxHeartbeats 8000000 in
theorem rflip_spec (n : Nat) (l : List NA) (t : List Nat) (hll : l.length ≤ 256) (ht : SetOk l t) : CallsTo Tryd.prog 27 [gD ((n : Int), castA l), natsD t] (gD ((n : Int), castA (flipN l t))) := by
 have hcl := castA_len l
 refine callsTo_of Tryd.func27 rfl (by decide +kernel) (Nat.le_of_ble_eq_true rfl) ?_
 intro hat B X w0
 have htl := at_len 1 hat rfl
 rw [List.length_map] at htl
 repeat' first | refine pw_step rfl ?_ | refine pw_ret ?_ | refine wR ?_ | (refine wpG_split rfl rfl (fun hc => ?_) (fun hc => ?_) <;> try simp only [hcL] at hc) | (refine pw_cond _ rfl rfl (fun hc => ?_) (fun hc => ?_) <;> (try simp only [hcL] at hc) <;> try omega) | simp (disch := omega) only [go_sem, simprocAttr, roomy, hcl] | exact arc_cells' _ | apply And.intro | omega | decide +kernel
 refine pw_loopI (κ := Nat) (fun (k : Nat) => k ≤ t.length) (fun (k : Nat) => [(1, .d (natsD t)), (2, .ptr 2 0 0 0), (4, .ptr 4 0 0 0), (5, .ptr 5 0 0 0), (6, .int k)]) (fun (k : Nat) => [(2, .cells [.int n, .d (arcsD (castA l))]), (4, .cells [.int 0, .nilS]), (5, .cells [.int n, .ref 900 2 0 l.length l.length]), (900, .row 2 ((castA (flipN l (t.take k))).map arcD))]) (fun (k : Nat) => t.length - k) 0 ?_ ?_ ?_
 ·exact Nat.zero_le _
 ·exact eL [(900, 15)] _ _ (by refine ⟨?_, ?_⟩ <;> (repeat' first | exact fmn | refine fmc ⟨(by first | rfl | (simp (disch := omega) only [go_sem, simprocAttr, inL, List.take_zero, Go.Cy.flipN_nil]; first | done | omega | (congr 1; done))), ?_⟩); done)
 ·intro k hk
  rcases Nat.lt_or_ge k t.length with hlt | hge
  ·obtain ⟨x, hx⟩ := get_some hlt
   obtain ⟨a, ha, hne⟩ := ht.2 x (List.mem_of_getElem? hx)
   have hxl := (List.getElem?_eq_some_iff.1 ha).1
   have hg := castA_get (flipN_old ht.1 hx ha)
   have hfl : (castA (flipN l (t.take k))).length = l.length := by rw [castA_len, Go.Cy.flipN_len]
   have hs : (castA (flipN l (t.take k))).set x ((a.2 : Int), (a.1 : Int)) = castA (flipN l (t.take (k + 1))) := by
    rw [flipN_step hx ha]; exact castA_set _ x (a.2, a.1)
   have hs2 : ((castA (flipN l (t.take k))).map arcD).set x (.ag [.int (a.2 : Nat), .int (a.1 : Nat)]) = (castA (flipN l (t.take (k + 1)))).map arcD := by
    rw [← hs, List.map_set]
   repeat' first | refine pw_step rfl ?_ | refine pw_ret ?_ | refine wR ?_ | (refine wpG_split rfl rfl (fun hc => ?_) (fun hc => ?_) <;> try simp only [hcL] at hc) | (refine pw_cond _ rfl rfl (fun hc => ?_) (fun hc => ?_) <;> (try simp only [hcL] at hc) <;> try omega) | simp (disch := omega) only [go_sem, simprocAttr, hx, hg, hfl, hs2] | apply And.intro | omega | decide +kernel
   refine ⟨k + 1, ?_, eL [] _ _ (by refine ⟨?_, ?_⟩ <;> (repeat' first | exact fmn | refine fmc ⟨(by first | rfl | (simp (disch := omega) only [go_sem, simprocAttr, inL]; first | done | omega | (congr 1; done))), ?_⟩); done), ?_⟩
   ·omega
   ·omega
  ·have hk : k = t.length := by omega
   subst hk
   have hfl : (castA (flipN l t)).length = l.length := by rw [castA_len, Go.Cy.flipN_len]
   repeat' first | refine pw_step rfl ?_ | refine pw_ret ?_ | refine wR ?_ | (refine wpG_split rfl rfl (fun hc => ?_) (fun hc => ?_) <;> try simp only [hcL] at hc) | (refine pw_cond _ rfl rfl (fun hc => ?_) (fun hc => ?_) <;> (try simp only [hcL] at hc) <;> try omega) | simp (disch := omega) only [go_sem, simprocAttr] | apply And.intro | omega | decide +kernel
   refine ⟨_, _, _, _, rfl, ?_⟩
   simp (disch := omega) only [go_sem, simprocAttr]
   simp [toD, gD, arcsD, List.take_length, hfl, List.take_of_length_le]
end Go.Proofs.YthbcmebhpabpnaaDoor
namespace Go.Proofs.YthbcmebhpabpnaaDoor
open Go Go.PS Go.Proofs
open Go.Cy (NA InN flipN SetOk Acy Src Peel Stuck Asc)
set_option maxRecDepth 100000
attribute [local irreducible] wpRun wpG CallsTo CallsM

theorem sub_len : ∀ {a b : List Nat}, a.Nodup → (∀ x, x ∈ a → x ∈ b) → a.length ≤ b.length
 | [], b, _, _ => by simp
 | x :: a, b, hn, hs => by
  have hn' := List.nodup_cons.1 hn
  have hx := hs x (by simp)
  have := sub_len (b := b.erase x) hn'.2 fun y hy => (List.mem_erase_of_ne (fun e => hn'.1 (by rw [← e]; exact hy))).2 (hs y (List.mem_cons_of_mem _ hy))
  rw [List.length_erase_of_mem hx] at this
  have := List.length_pos_of_mem hx
  simp; omega
def arcOk (G : List Nat) (v : Nat) (a : NA) : Bool := !(decide (a.2 = v) && !decide (a.1 = v) && !decide (a.1 ∈ G))
def srcK (l : List NA) (G : List Nat) (v k : Nat) : Bool := !decide (v ∈ G) && (l.take k).all (arcOk G v)
theorem srcK_succ {l : List NA} (G : List Nat) (v : Nat) {k : Nat} {a : NA} (h : l[k]? = some a) : srcK l G v (k + 1) = (srcK l G v k && arcOk G v a) := by
 simp only [srcK, take_snoc h, List.all_append, List.all_cons, List.all_nil, Bool.and_true, Bool.and_assoc]
theorem srcK_iff {l : List NA} {G : List Nat} {v : Nat} : srcK l G v l.length = true ↔ v ∉ G ∧ Src l G v := by
 simp only [srcK, List.take_length, Bool.and_eq_true, Bool.not_eq_true', decide_eq_false_iff_not, List.all_eq_true, arcOk, Bool.and_eq_false_iff, Src]
 constructor
 ·rintro ⟨h1, h2⟩
  refine ⟨h1, fun a ha h3 h4 => ?_⟩
  have := h2 a ha
  simp only [Bool.not_eq_false', decide_eq_false_iff_not, decide_eq_true_eq] at this
  rcases this with (h | h) | h
  ·exact (h h3).elim
  ·exact (h4 h).elim
  ·exact h
 ·rintro ⟨h1, h2⟩
  refine ⟨h1, fun a ha => ?_⟩
  simp only [Bool.not_eq_false', decide_eq_false_iff_not, decide_eq_true_eq]
  by_cases c1 : a.2 = v
  ·by_cases c2 : a.1 = v
   ·exact .inl (.inr c2)
   ·exact .inr (h2 a ha c1 c2)
  ·exact .inl (.inl c1)
theorem inRow_cons {n : Nat} {G : List Nat} (v : Nat) : (inRow n G).set v (.bool true) = inRow n (v :: G) :=
 inRow_set fun w _ => by
  by_cases c : w = v
  ·rw [if_pos c]; simp [c]
  ·rw [if_neg c, decide_eq_decide]; simp [c]
theorem inRow_no (n : Nat) : List.replicate n (D.bool false) = inRow n [] := by
 refine List.ext_getElem? fun k => ?_
 rw [List.getElem?_replicate]
 rcases Nat.lt_or_ge k n with hk | hk
 ·rw [inRow_get _ hk, if_pos hk]; rfl
 ·rw [List.getElem?_eq_none (by rw [inRow_len]; exact hk : (inRow n _).length ≤ k), if_neg (by omega)]
structure Gone (n : Nat) (l : List NA) (G : List Nat) : Prop where
 peel : Peel l G
 nd : G.Nodup
 lt : ∀ v, v ∈ G → v < n
theorem Gone.cons {n : Nat} {l : List NA} {G : List Nat} (h : Gone n l G) {v : Nat} (hv : v < n) (h1 : v ∉ G) (h2 : Src l G v) : Gone n l (v :: G) :=
 ⟨h.peel.cons h1 h2, List.nodup_cons.2 ⟨h1, h.nd⟩, fun u hu => by
  rcases List.mem_cons.1 hu with rfl | hu
  ·exact hv
  ·exact h.lt u hu⟩
theorem Gone.fin {n : Nat} {l : List NA} {G : List Nat} (h : Gone n l G) (hi : InN n l) (hs : n ≤ G.length ∨ Stuck n l G) : decide (n - G.length = 0) = acyB l := by
 rw [Bool.eq_iff_iff, decide_eq_true_iff, acyB_iff]
 constructor
 ·intro h0
  exact h.peel.all hi (Go.Cy.nd_all h.nd h.lt (by omega))
 ·intro ha
  rcases hs with hs | hs
  ·omega
  ·have := sub_len (b := G) (List.nodup_range (n := n)) fun v hv => Go.Cy.stuck_all hi ha hs v (List.mem_range.1 hv)
   simp at this; omega
set_option maxHeartbeats 16000000 in
theorem rAcyclic_spec (n : Nat) (l : List NA) (hi : InN n l) (hn : n ≤ 64) (hll : l.length ≤ 256) : CallsTo Tryd.prog 21 [gD ((n : Int), castA l)] (.bool (acyB l)) := by
 have hcl := castA_len l
 refine callsTo_of Tryd.func21 rfl (by decide +kernel) (Nat.le_of_ble_eq_true rfl) ?_
 intro hat B X w0
 repeat' first | refine pw_step rfl ?_ | refine pw_ret ?_ | refine wR ?_ | (refine wpG_split rfl rfl (fun hc => ?_) (fun hc => ?_) <;> try simp only [hcL] at hc) | (refine pw_cond _ rfl rfl (fun hc => ?_) (fun hc => ?_) <;> (try simp only [hcL] at hc) <;> try omega) | simp (disch := omega) only [go_sem, simprocAttr] | apply And.intro | omega | decide +kernel
 refine pw_loopI (κ := Nat × List Nat) (fun (q : Nat × List Nat) => match q with | (t, G) => t ≤ n ∧ Gone n l G ∧ (t ≤ G.length ∨ Stuck n l G)) (fun (q : Nat × List Nat) => match q with | (t, G) => [(1, .ptr 1 0 0 0), (3, .ref 12 1 0 n n), (4, .int (n - G.length : Nat)), (5, .int t)]) (fun (q : Nat × List Nat) => match q with | (t, G) => [(1, .cells [.int n, .d (arcsD (castA l))]), (12, .row 1 (inRow n G))]) (fun (q : Nat × List Nat) => match q with | (t, G) => n - t) (0, []) ?_ ?_ ?_
 ·exact ⟨Nat.zero_le _, ⟨Go.Cy.peel_nil l, List.nodup_nil, by simp⟩, .inl (Nat.zero_le _)⟩
 ·exact eL [] _ _ (by refine ⟨?_, ?_⟩ <;> (repeat' first | exact fmn | refine fmc ⟨(by first | rfl | (simp (disch := omega) only [go_sem, simprocAttr, inL, inRow_no]; first | done | omega | (congr 1; done))), ?_⟩); done)
 ·rintro ⟨t, G0⟩ ⟨ht, hG0, hT⟩
  dsimp only at ht hG0 hT ⊢
  rcases Nat.lt_or_ge t n with htn | htn
  ·repeat' first | refine pw_step rfl ?_ | refine pw_ret ?_ | refine wR ?_ | (refine wpG_split rfl rfl (fun hc => ?_) (fun hc => ?_) <;> try simp only [hcL] at hc) | (refine pw_cond _ rfl rfl (fun hc => ?_) (fun hc => ?_) <;> (try simp only [hcL] at hc) <;> try omega) | simp (disch := omega) only [go_sem, simprocAttr] | apply And.intro | omega | decide +kernel
   refine pw_loopI (κ := Nat × List Nat) (fun (q : Nat × List Nat) => match q with | (v, G) => v ≤ n ∧ Gone n l G ∧ (Stuck n l G ∨ t < G.length ∨ (t ≤ G.length ∧ ∀ u, u < v → u ∉ G → ¬ Src l G u))) (fun (q : Nat × List Nat) => match q with | (v, G) => [(1, .ptr 1 0 0 0), (3, .ref 12 1 0 n n), (4, .int (n - G.length : Nat)), (5, .int t), (6, .int v)]) (fun (q : Nat × List Nat) => match q with | (v, G) => [(1, .cells [.int n, .d (arcsD (castA l))]), (12, .row 1 (inRow n G))]) (fun (q : Nat × List Nat) => match q with | (v, G) => n - v) (0, G0) ?_ ?_ ?_
   ·refine ⟨Nat.zero_le _, hG0, ?_⟩
    rcases hT with h | h
    ·exact .inr (.inr ⟨h, fun u hu => by omega⟩)
    ·exact .inl h
   ·exact eL [] _ _ (by refine ⟨?_, ?_⟩ <;> (repeat' first | exact fmn | refine fmc ⟨(by first | rfl | (simp (disch := omega) only [go_sem, simprocAttr, inL]; first | done | omega | (congr 1; done))), ?_⟩); done)
   ·rintro ⟨v, G⟩ ⟨hv, hG, hV⟩
    dsimp only at hv hG hV ⊢
    have hGl := Go.Cy.nd_le hG.nd hG.lt
    rcases Nat.lt_or_ge v n with hvn | hvn
    ·have hg := inRow_get G hvn
     have hk0 : (!decide (v ∈ G)) = srcK l G v 0 := by simp [srcK]
     repeat' first | refine pw_step rfl ?_ | refine pw_ret ?_ | refine wR ?_ | (refine wpG_split rfl rfl (fun hc => ?_) (fun hc => ?_) <;> try simp only [hcL] at hc) | (refine pw_cond _ rfl rfl (fun hc => ?_) (fun hc => ?_) <;> (try simp only [hcL] at hc) <;> try omega) | simp (disch := omega) only [go_sem, simprocAttr, hg, inRow_len, hk0] | apply And.intro | omega | decide +kernel
     refine pw_loopI (κ := Nat) (fun (i : Nat) => i ≤ l.length) (fun (i : Nat) => [(1, .ptr 1 0 0 0), (3, .ref 12 1 0 n n), (4, .int (n - G.length : Nat)), (5, .int t), (6, .int v), (7, .bool (srcK l G v i)), (8, .int i)]) (fun (i : Nat) => [(1, .cells [.int n, .d (arcsD (castA l))]), (12, .row 1 (inRow n G))]) (fun (i : Nat) => l.length - i) 0 ?_ ?_ ?_
     ·exact Nat.zero_le _
     ·exact eL [] _ _ (by refine ⟨?_, ?_⟩ <;> (repeat' first | exact fmn | refine fmc ⟨(by first | rfl | (simp (disch := omega) only [go_sem, simprocAttr, inL]; first | done | omega | (congr 1; done))), ?_⟩); done)
     ·intro i hil
      rcases Nat.lt_or_ge i l.length with hlt | hge
      ·obtain ⟨a, ha⟩ := get_some hlt
       have hp := castA_get ha
       have hin := hi a (List.mem_of_getElem? ha)
       have hga := inRow_get G hin.1
       have hsu := srcK_succ G v ha
       by_cases c1 : a.2 = v
       ·subst c1
        by_cases c2 : a.1 = a.2
        ·have e : arcOk G a.2 a = true := by simp [arcOk, c2]
         rw [e, Bool.and_true] at hsu
         have c2' : ((a.1 : Nat) : Int) = (a.2 : Nat) := by omega
         repeat' first | refine pw_step rfl ?_ | refine pw_ret ?_ | refine wR ?_ | (refine wpG_split rfl rfl (fun hc => ?_) (fun hc => ?_) <;> try simp only [hcL] at hc) | (refine pw_cond _ rfl rfl (fun hc => ?_) (fun hc => ?_) <;> (try simp only [hcL] at hc) <;> try omega) | simp (disch := omega) only [go_sem, simprocAttr, hp, hcl, c2'] | apply And.intro | omega | decide +kernel
         refine ⟨i + 1, ?_, eL [] _ _ (by refine ⟨?_, ?_⟩ <;> (repeat' first | exact fmn | refine fmc ⟨(by first | rfl | (simp (disch := omega) only [go_sem, simprocAttr, inL, hsu]; first | done | omega | (congr 1; done))), ?_⟩); done), ?_⟩
         ·omega
         ·omega
        ·have c2' : ¬ ((a.1 : Nat) : Int) = (a.2 : Nat) := by omega
         by_cases c3 : a.1 ∈ G
         ·have e : arcOk G a.2 a = true := by simp [arcOk, c3]
          rw [e, Bool.and_true] at hsu
          rw [decide_eq_true c3] at hga
          repeat' first | refine pw_step rfl ?_ | refine pw_ret ?_ | refine wR ?_ | (refine wpG_split rfl rfl (fun hc => ?_) (fun hc => ?_) <;> try simp only [hcL] at hc) | (refine pw_cond _ rfl rfl (fun hc => ?_) (fun hc => ?_) <;> (try simp only [hcL] at hc) <;> try omega) | simp (disch := omega) only [go_sem, simprocAttr, hp, hcl, c2', hga, inRow_len] | apply And.intro | omega | decide +kernel
          refine ⟨i + 1, ?_, eL [] _ _ (by refine ⟨?_, ?_⟩ <;> (repeat' first | exact fmn | refine fmc ⟨(by first | rfl | (simp (disch := omega) only [go_sem, simprocAttr, inL, hsu]; first | done | omega | (congr 1; done))), ?_⟩); done), ?_⟩
          ·omega
          ·omega
         ·have e : arcOk G a.2 a = false := by simp [arcOk, c3, c2]
          rw [e, Bool.and_false] at hsu
          rw [decide_eq_false c3] at hga
          repeat' first | refine pw_step rfl ?_ | refine pw_ret ?_ | refine wR ?_ | (refine wpG_split rfl rfl (fun hc => ?_) (fun hc => ?_) <;> try simp only [hcL] at hc) | (refine pw_cond _ rfl rfl (fun hc => ?_) (fun hc => ?_) <;> (try simp only [hcL] at hc) <;> try omega) | simp (disch := omega) only [go_sem, simprocAttr, hp, hcl, c2', hga, inRow_len] | apply And.intro | omega | decide +kernel
          refine ⟨i + 1, ?_, eL [] _ _ (by refine ⟨?_, ?_⟩ <;> (repeat' first | exact fmn | refine fmc ⟨(by first | rfl | (simp (disch := omega) only [go_sem, simprocAttr, inL, hsu]; first | done | omega | (congr 1; done))), ?_⟩); done), ?_⟩
          ·omega
          ·omega
       ·have e : arcOk G v a = true := by simp [arcOk, c1]
        rw [e, Bool.and_true] at hsu
        have c1' : ¬ ((a.2 : Nat) : Int) = (v : Nat) := by omega
        repeat' first | refine pw_step rfl ?_ | refine pw_ret ?_ | refine wR ?_ | (refine wpG_split rfl rfl (fun hc => ?_) (fun hc => ?_) <;> try simp only [hcL] at hc) | (refine pw_cond _ rfl rfl (fun hc => ?_) (fun hc => ?_) <;> (try simp only [hcL] at hc) <;> try omega) | simp (disch := omega) only [go_sem, simprocAttr, hp, hcl, c1'] | apply And.intro | omega | decide +kernel
        refine ⟨i + 1, ?_, eL [] _ _ (by refine ⟨?_, ?_⟩ <;> (repeat' first | exact fmn | refine fmc ⟨(by first | rfl | (simp (disch := omega) only [go_sem, simprocAttr, inL, hsu]; first | done | omega | (congr 1; done))), ?_⟩); done), ?_⟩
        ·omega
        ·omega
      ·have hil : i = l.length := by omega
       subst hil
       rcases hsk : srcK l G v l.length with _ | _
       ·repeat' first | refine pw_step rfl ?_ | refine pw_ret ?_ | refine wR ?_ | (refine wpG_split rfl rfl (fun hc => ?_) (fun hc => ?_) <;> try simp only [hcL] at hc) | (refine pw_cond _ rfl rfl (fun hc => ?_) (fun hc => ?_) <;> (try simp only [hcL] at hc) <;> try omega) | simp (disch := omega) only [go_sem, simprocAttr, hcl] | apply And.intro | omega | decide +kernel
        refine ⟨(v + 1, G), ?_, eL [] _ _ (by refine ⟨?_, ?_⟩ <;> (repeat' first | exact fmn | refine fmc ⟨(by first | rfl | (simp (disch := omega) only [go_sem, simprocAttr, inL]; first | done | omega | (congr 1; done))), ?_⟩); done), ?_⟩
        ·dsimp only
         refine ⟨by omega, hG, ?_⟩
         rcases hV with h | h | ⟨h1, h2⟩
         ·exact .inl h
         ·exact .inr (.inl h)
         ·refine .inr (.inr ⟨h1, fun u hu huG hs => ?_⟩)
          rcases Nat.lt_succ_iff_lt_or_eq.1 hu with h3 | rfl
          ·exact h2 u h3 huG hs
          ·rw [srcK_iff.2 ⟨huG, hs⟩] at hsk; cases hsk
        ·dsimp only; omega
       ·obtain ⟨h1, h2⟩ := srcK_iff.1 hsk
        have hG' := hG.cons hvn h1 h2
        have hGl' := Go.Cy.nd_le hG'.nd hG'.lt
        rw [List.length_cons] at hGl'
        have hs := inRow_cons (n := n) (G := G) v
        have e1 : ((n - G.length : Nat) : Int) - 1 = (n - (G.length + 1) : Nat) := by omega
        repeat' first | refine pw_step rfl ?_ | refine pw_ret ?_ | refine wR ?_ | (refine wpG_split rfl rfl (fun hc => ?_) (fun hc => ?_) <;> try simp only [hcL] at hc) | (refine pw_cond _ rfl rfl (fun hc => ?_) (fun hc => ?_) <;> (try simp only [hcL] at hc) <;> try omega) | simp (disch := omega) only [go_sem, simprocAttr, hcl, hg, inRow_len, hs, e1] | apply And.intro | omega | decide +kernel
        refine ⟨(v + 1, v :: G), ?_, eL [] _ _ (by refine ⟨?_, ?_⟩ <;> (repeat' first | exact fmn | refine fmc ⟨(by first | rfl | (simp (disch := omega) only [go_sem, simprocAttr, inL, List.length_cons]; first | done | omega | (congr 1; done))), ?_⟩); done), ?_⟩
        ·dsimp only
         refine ⟨by omega, hG', ?_⟩
         rw [List.length_cons]
         rcases hV with h | h | ⟨h3, h4⟩
         ·exact (h v hvn h1 h2).elim
         ·exact .inr (.inl (by omega))
         ·exact .inr (.inl (by omega))
        ·dsimp only; omega
    ·have hvn : n = v := by omega
     subst hvn
     repeat' first | refine pw_step rfl ?_ | refine pw_ret ?_ | refine wR ?_ | (refine wpG_split rfl rfl (fun hc => ?_) (fun hc => ?_) <;> try simp only [hcL] at hc) | (refine pw_cond _ rfl rfl (fun hc => ?_) (fun hc => ?_) <;> (try simp only [hcL] at hc) <;> try omega) | simp (disch := omega) only [go_sem, simprocAttr] | apply And.intro | omega | decide +kernel
     refine ⟨(t + 1, G), ?_, eL [] _ _ (by refine ⟨?_, ?_⟩ <;> (repeat' first | exact fmn | refine fmc ⟨(by first | rfl | (simp (disch := omega) only [go_sem, simprocAttr, inL]; first | done | omega | (congr 1; done))), ?_⟩); done), ?_⟩
     ·dsimp only
      refine ⟨by omega, hG, ?_⟩
      rcases hV with h | h | ⟨h1, h2⟩
      ·exact .inr h
      ·exact .inl (by omega)
      ·exact .inr h2
     ·dsimp only; omega
  ·have hfin := hG0.fin hi (hT.imp (by omega) id)
   repeat' first | refine pw_step rfl ?_ | refine pw_ret ?_ | refine wR ?_ | (refine wpG_split rfl rfl (fun hc => ?_) (fun hc => ?_) <;> try simp only [hcL] at hc) | (refine pw_cond _ rfl rfl (fun hc => ?_) (fun hc => ?_) <;> (try simp only [hcL] at hc) <;> try omega) | simp (disch := omega) only [go_sem, simprocAttr] | apply And.intro | omega | decide +kernel
   refine bool_some ?_
   rw [← hfin, decide_eq_decide]; omega
end Go.Proofs.YthbcmebhpabpnaaDoor
namespace Go.Proofs.YthbcmebhpabpnaaDoor
open Go Go.PS Go.Proofs
open Go.Cy (NA InN flipN SetOk bwd bwdAt backL)
open Go.Bd (Part)
set_option maxRecDepth 100000
attribute [local irreducible] wpRun wpG CallsTo CallsM

theorem rBreaks_bad (g : Gr) (s : List Int) (h : gOk g = false) : CallsTo Tryd.prog 11 [gD g, intsD s] (.bool false) := by
 have hv : CallsTo Tryd.prog 12 [gD g] (.bool false) := h ▸ rValid_spec g
 refine callsTo_of Tryd.func11 rfl (by decide +kernel) (Nat.le_of_ble_eq_true rfl) ?_
 intro hat B X w0
 repeat' first | refine pw_step rfl ?_ | refine pw_ret ?_ | refine wR ?_ | (refine rc (hv) rfl ?_ ?_; (· first | rfl | simp (disch := omega) only [go_sem, simprocAttr])) | (refine wpG_split rfl rfl (fun hc => ?_) (fun hc => ?_) <;> try simp only [hcL] at hc) | (refine pw_cond _ rfl rfl (fun hc => ?_) (fun hc => ?_) <;> (try simp only [hcL] at hc) <;> try omega) | simp (disch := omega) only [go_sem, simprocAttr] | apply And.intro | omega | decide +kernel
 exact rfl
set_option maxHeartbeats 16000000 in
theorem rBreaks_ok (n : Nat) (l : List NA) (s : List Int) (h : gOk ((n : Int), castA l) = true) (hi : InN n l) (hn : n ≤ 64) (hll : l.length ≤ 256) : CallsTo Tryd.prog 11 [gD ((n : Int), castA l), intsD s] (.bool (brkB l s)) := by
 have hv : CallsTo Tryd.prog 12 [gD ((n : Int), castA l)] (.bool true) := h ▸ rValid_spec _
 have hcl := castA_len l
 refine callsTo_of Tryd.func11 rfl (by decide +kernel) (Nat.le_of_ble_eq_true rfl) ?_
 intro hat B X w0
 have hsl := at_len 1 hat rfl
 rw [List.length_map] at hsl
 repeat' first | refine pw_step rfl ?_ | refine pw_ret ?_ | refine wR ?_ | (refine rc (hv) rfl ?_ ?_; (· first | rfl | simp (disch := omega) only [go_sem, simprocAttr, hcl])) | (refine wpG_split rfl rfl (fun hc => ?_) (fun hc => ?_) <;> try simp only [hcL] at hc) | (refine pw_cond _ rfl rfl (fun hc => ?_) (fun hc => ?_) <;> (try simp only [hcL] at hc) <;> try omega) | simp (disch := omega) only [go_sem, simprocAttr, hcl] | apply And.intro | omega | decide +kernel
 refine pw_loopI (κ := Nat) (fun (k : Nat) => k ≤ s.length ∧ allN (okAt l s) k = true) (fun (k : Nat) => [(1, .d (intsD s)), (2, .ptr 2 0 0 0), (5, .int k)]) (fun (k : Nat) => [(2, .cells [.int n, .d (arcsD (castA l))])]) (fun (k : Nat) => s.length - k) 0 ?_ ?_ ?_
 ·exact ⟨Nat.zero_le _, rfl⟩
 ·exact eL [] _ _ (by refine ⟨?_, ?_⟩ <;> (repeat' first | exact fmn | refine fmc ⟨(by first | rfl | (simp (disch := omega) only [go_sem, simprocAttr, inL]; first | done | omega | (congr 1; done))), ?_⟩); done)
 ·rintro k ⟨hk, hinv⟩
  rcases Nat.lt_or_ge k s.length with hlt | hge
  ·obtain ⟨e, he⟩ := get_some hlt
   have bad : okAt l s k = false → brkB l s = false := fun h => by rw [brkB, okS, allN_false hlt h]; rfl
   by_cases c1 : e < 0
   ·rw [bad (by simp [okAt, he]; omega)]
    repeat' first | refine pw_step rfl ?_ | refine pw_ret ?_ | refine wR ?_ | (refine wpG_split rfl rfl (fun hc => ?_) (fun hc => ?_) <;> try simp only [hcL] at hc) | (refine pw_cond _ rfl rfl (fun hc => ?_) (fun hc => ?_) <;> (try simp only [hcL] at hc) <;> try omega) | simp (disch := omega) only [go_sem, simprocAttr, he, hcl, c1, List.append_eq] | apply And.intro | omega | decide +kernel
    all_goals exact rfl
   ·obtain ⟨x, rfl⟩ : ∃ x : Nat, e = x := ⟨e.toNat, by omega⟩
    rcases Nat.lt_or_ge x l.length with hxl | hxl
    ·obtain ⟨a, ha⟩ := get_some hxl
     have hp := castA_get ha
     rcases Nat.eq_zero_or_pos k with rfl | h0
     ·by_cases c2 : a.1 = a.2
      ·rw [bad (by simp [okAt, he, ha, c2])]
       have c2' : (a.1 : Int) = a.2 := by omega
       repeat' first | refine pw_step rfl ?_ | refine pw_ret ?_ | refine wR ?_ | (refine wpG_split rfl rfl (fun hc => ?_) (fun hc => ?_) <;> try simp only [hcL] at hc) | (refine pw_cond _ rfl rfl (fun hc => ?_) (fun hc => ?_) <;> (try simp only [hcL] at hc) <;> try omega) | simp (disch := omega) only [go_sem, simprocAttr, he, hcl, hp, c2', List.append_eq] | apply And.intro | omega | decide +kernel
       all_goals exact rfl
      ·have c2' : ¬ (a.1 : Int) = a.2 := by omega
       repeat' first | refine pw_step rfl ?_ | refine pw_ret ?_ | refine wR ?_ | (refine wpG_split rfl rfl (fun hc => ?_) (fun hc => ?_) <;> try simp only [hcL] at hc) | (refine pw_cond _ rfl rfl (fun hc => ?_) (fun hc => ?_) <;> (try simp only [hcL] at hc) <;> try omega) | simp (disch := omega) only [go_sem, simprocAttr, he, hcl, hp, c2', List.append_eq] | apply And.intro | omega | decide +kernel
       refine ⟨0 + 1, ?_, eL [] _ _ (by refine ⟨?_, ?_⟩ <;> (repeat' first | exact fmn | refine fmc ⟨(by first | rfl | (simp (disch := omega) only [go_sem, simprocAttr, inL]; first | done | omega | (congr 1; done))), ?_⟩); done), ?_⟩
       ·exact ⟨by omega, allN_succ rfl (by simp [okAt, he, ha, c2])⟩
       ·omega
     ·obtain ⟨y, hy⟩ := get_some (show k - 1 < s.length by omega)
      have e1 : (k : Int) - 1 = (k - 1 : Nat) := by omega
      have hya : ati s (k - 1) = y := by rw [ati, hy]; rfl
      by_cases c3 : y < x
      ·by_cases c2 : a.1 = a.2
       ·rw [bad (by simp [okAt, he, ha, c2])]
        have c2' : (a.1 : Int) = a.2 := by omega
        repeat' first | refine pw_step rfl ?_ | refine pw_ret ?_ | refine wR ?_ | (refine wpG_split rfl rfl (fun hc => ?_) (fun hc => ?_) <;> try simp only [hcL] at hc) | (refine pw_cond _ rfl rfl (fun hc => ?_) (fun hc => ?_) <;> (try simp only [hcL] at hc) <;> try omega) | simp (disch := omega) only [go_sem, simprocAttr, he, hcl, hp, c2', e1, hy, List.append_eq] | apply And.intro | omega | decide +kernel
        all_goals exact rfl
       ·have c2' : ¬ (a.1 : Int) = a.2 := by omega
        repeat' first | refine pw_step rfl ?_ | refine pw_ret ?_ | refine wR ?_ | (refine wpG_split rfl rfl (fun hc => ?_) (fun hc => ?_) <;> try simp only [hcL] at hc) | (refine pw_cond _ rfl rfl (fun hc => ?_) (fun hc => ?_) <;> (try simp only [hcL] at hc) <;> try omega) | simp (disch := omega) only [go_sem, simprocAttr, he, hcl, hp, c2', e1, hy, List.append_eq] | apply And.intro | omega | decide +kernel
        refine ⟨k + 1, ?_, eL [] _ _ (by refine ⟨?_, ?_⟩ <;> (repeat' first | exact fmn | refine fmc ⟨(by first | rfl | (simp (disch := omega) only [go_sem, simprocAttr, inL]; first | done | omega | (congr 1; done))), ?_⟩); done), ?_⟩
        ·exact ⟨by omega, allN_succ hinv (by simp [okAt, he, ha, c2, hya, c3])⟩
        ·omega
      ·rw [bad (by simp [okAt, he, ha, hya, c3]; omega)]
       repeat' first | refine pw_step rfl ?_ | refine pw_ret ?_ | refine wR ?_ | (refine wpG_split rfl rfl (fun hc => ?_) (fun hc => ?_) <;> try simp only [hcL] at hc) | (refine pw_cond _ rfl rfl (fun hc => ?_) (fun hc => ?_) <;> (try simp only [hcL] at hc) <;> try omega) | simp (disch := omega) only [go_sem, simprocAttr, he, hcl, hp, e1, hy, List.append_eq] | apply And.intro | omega | decide +kernel
       all_goals exact rfl
    ·rw [bad (by simp [okAt, he, List.getElem?_eq_none hxl])]
     repeat' first | refine pw_step rfl ?_ | refine pw_ret ?_ | refine wR ?_ | (refine wpG_split rfl rfl (fun hc => ?_) (fun hc => ?_) <;> try simp only [hcL] at hc) | (refine pw_cond _ rfl rfl (fun hc => ?_) (fun hc => ?_) <;> (try simp only [hcL] at hc) <;> try omega) | simp (disch := omega) only [go_sem, simprocAttr, he, hcl, List.append_eq] | apply And.intro | omega | decide +kernel
     all_goals exact rfl
  ·have hk : k = s.length := by omega
   subst hk
   obtain ⟨t, rfl, ht⟩ := okS_sets hinv
   have hF := rflip_spec n l t hll ht
   rw [← intsD_castL] at hF
   have hA := rAcyclic_spec n (flipN l t) (Go.Cy.flipN_in hi) hn (by rw [Go.Cy.flipN_len]; exact hll)
   have eB : brkB l (castL t) = acyB (flipN l t) := by rw [brkB, okS, hinv, toNat_castL, Bool.true_and]
   rw [eB]
   repeat' first | refine pw_step rfl ?_ | refine pw_ret ?_ | refine wR ?_ | (refine rc (hF) rfl ?_ ?_; (· first | rfl | simp (disch := omega) only [go_sem, simprocAttr, hcl])) | (refine rc (hA) rfl ?_ ?_; (· first | rfl | simp (disch := omega) only [go_sem, simprocAttr, hcl])) | (refine wpG_split rfl rfl (fun hc => ?_) (fun hc => ?_) <;> try simp only [hcL] at hc) | (refine pw_cond _ rfl rfl (fun hc => ?_) (fun hc => ?_) <;> (try simp only [hcL] at hc) <;> try omega) | simp (disch := omega) only [go_sem, simprocAttr, hcl] | apply And.intro | omega | decide +kernel
   exact rfl
set_option maxHeartbeats 16000000 in
theorem rBackward_spec (n : Nat) (l : List NA) (R : List Nat) (hi : InN n l) (hn : n ≤ 64) (hll : l.length ≤ 256) (hP : Part n 0 R) : CallsTo Tryd.prog 22 [gD ((n : Int), castA l), natsD R] (natsD (backL R l)) := by
 have hcl := castA_len l
 have hRl : R.length = n := by have := hP.len; omega
 refine callsTo_of Tryd.func22 rfl (by decide +kernel) (Nat.le_of_ble_eq_true rfl) ?_
 intro hat B X w0
 repeat' first | refine pw_step rfl ?_ | refine pw_ret ?_ | refine wR ?_ | (refine wpG_split rfl rfl (fun hc => ?_) (fun hc => ?_) <;> try simp only [hcL] at hc) | (refine pw_cond _ rfl rfl (fun hc => ?_) (fun hc => ?_) <;> (try simp only [hcL] at hc) <;> try omega) | simp (disch := omega) only [go_sem, simprocAttr, hRl] | apply And.intro | omega | decide +kernel
 refine pw_loopI (κ := Nat) (fun (k : Nat) => k ≤ n) (fun (k : Nat) => [(1, .d (natsD R)), (2, .ptr 2 0 0 0), (5, .ref 11 1 0 n n), (6, .int k)]) (fun (k : Nat) => [(2, .cells [.int n, .d (arcsD (castA l))]), (11, .row 1 (rowN n (plF R k)))]) (fun (k : Nat) => n - k) 0 ?_ ?_ ?_
 ·exact Nat.zero_le _
 ·exact eL [] _ _ (by refine ⟨?_, ?_⟩ <;> (repeat' first | exact fmn | refine fmc ⟨(by first | rfl | (simp (disch := omega) only [go_sem, simprocAttr, inL, pl_rep n R]; first | done | omega | (congr 1; done))), ?_⟩); done)
 ·intro k hk
  rcases Nat.lt_or_ge k n with hlt | hge
  ·obtain ⟨v, hvk⟩ := get_some (show k < R.length by omega)
   have hvn := hP.lt v (List.mem_of_getElem? hvk)
   have hg := rowN_get (plF R k) hvn
   have hs := rowN_set (n := n) (f := plF R k) (f' := plF R (k + 1)) (i := v) (x := k) (fun w _ => pl_succ hP.nd hvk w)
   repeat' first | refine pw_step rfl ?_ | refine pw_ret ?_ | refine wR ?_ | (refine wpG_split rfl rfl (fun hc => ?_) (fun hc => ?_) <;> try simp only [hcL] at hc) | (refine pw_cond _ rfl rfl (fun hc => ?_) (fun hc => ?_) <;> (try simp only [hcL] at hc) <;> try omega) | simp (disch := omega) only [go_sem, simprocAttr, hvk, hRl, hg, rowN_len, hs] | apply And.intro | omega | decide +kernel
   refine ⟨k + 1, ?_, eL [] _ _ (by refine ⟨?_, ?_⟩ <;> (repeat' first | exact fmn | refine fmc ⟨(by first | rfl | (simp (disch := omega) only [go_sem, simprocAttr, inL]; first | done | omega | (congr 1; done))), ?_⟩); done), ?_⟩
   ·omega
   ·omega
  ·have hk : n = k := by omega
   subst hk
   repeat' first | refine pw_step rfl ?_ | refine pw_ret ?_ | refine pw_region (Nat.beq 25) hmix ?_ | (refine wpG_split rfl rfl (fun hc => ?_) (fun hc => ?_) <;> try simp only [hcL] at hc) | (refine pw_cond _ rfl rfl (fun hc => ?_) (fun hc => ?_) <;> (try simp only [hcL] at hc) <;> try omega) | simp (disch := omega) only [go_sem, simprocAttr, hRl, hcl] | apply And.intro | omega | decide +kernel
   refine pw_loopI (κ := Nat) (fun (k : Nat) => k ≤ l.length) (fun (k : Nat) => [(1, .d (natsD R)), (2, .ptr 2 0 0 0), (5, .ref 11 1 0 n n), (7, .ref 901 1 0 (backK R l k).length (backK R l k).length), (8, .int k)]) (fun (k : Nat) => [(2, .cells [.int n, .d (arcsD (castA l))]), (11, .row 1 (rowN n (plF R n))), (901, .row 1 ((backK R l k).map natD))]) (fun (k : Nat) => l.length - k) 0 ?_ ?_ ?_
   ·exact Nat.zero_le _
   ·exact eL [(901, 25)] _ _ (by refine ⟨?_, ?_⟩ <;> (repeat' first | exact fmn | refine fmc ⟨(by first | rfl | (simp (disch := omega) only [go_sem, simprocAttr, inL]; first | done | omega | (congr 1; done))), ?_⟩); done)
   ·intro k hk
    rcases Nat.lt_or_ge k l.length with hlt | hge
    ·obtain ⟨a, ha⟩ := get_some hlt
     have hp := castA_get ha
     have hin := hi a (List.mem_of_getElem? ha)
     have g1 := rowN_get (plF R n) hin.1
     have g2 := rowN_get (plF R n) hin.2
     have q1 := pl_all hP hin.1
     have q2 := pl_all hP hin.2
     rw [hRl] at q1 q2
     rw [q1] at g1
     rw [q2] at g2
     have hs := backK_succ R ha
     have hbl := backK_len R l k
     rw [bwd] at hs
     by_cases c : R.idxOf a.2 < R.idxOf a.1
     ·rw [decide_eq_true c, if_pos rfl] at hs
      repeat' first | refine pw_step rfl ?_ | refine pw_ret ?_ | refine wR ?_ | (refine wpG_split rfl rfl (fun hc => ?_) (fun hc => ?_) <;> try simp only [hcL] at hc) | (refine pw_cond _ rfl rfl (fun hc => ?_) (fun hc => ?_) <;> (try simp only [hcL] at hc) <;> try omega) | simp (disch := omega) only [go_sem, simprocAttr, hp, hcl, g1, g2, rowN_len, roomy, take_map_len] | exact nat_one _ | apply And.intro | omega | decide +kernel
      refine ⟨k + 1, ?_, eL [(901, 55)] _ _ (by refine ⟨?_, ?_⟩ <;> (repeat' first | exact fmn | refine fmc ⟨(by first | rfl | (simp (disch := omega) only [go_sem, simprocAttr, inL, hs, List.length_append, List.length_singleton, List.map_append, List.map_cons, List.map_nil]; first | done | omega | (congr 1; done))), ?_⟩); done), ?_⟩
      ·omega
      ·omega
     ·rw [decide_eq_false c, if_neg Bool.false_ne_true] at hs
      repeat' first | refine pw_step rfl ?_ | refine pw_ret ?_ | refine wR ?_ | (refine wpG_split rfl rfl (fun hc => ?_) (fun hc => ?_) <;> try simp only [hcL] at hc) | (refine pw_cond _ rfl rfl (fun hc => ?_) (fun hc => ?_) <;> (try simp only [hcL] at hc) <;> try omega) | simp (disch := omega) only [go_sem, simprocAttr, hp, hcl, g1, g2, rowN_len] | apply And.intro | omega | decide +kernel
      refine ⟨k + 1, ?_, eL [] _ _ (by refine ⟨?_, ?_⟩ <;> (repeat' first | exact fmn | refine fmc ⟨(by first | rfl | (simp (disch := omega) only [go_sem, simprocAttr, inL, hs]; first | done | omega | (congr 1; done))), ?_⟩); done), ?_⟩
      ·omega
      ·omega
    ·have hk : k = l.length := by omega
     subst hk
     repeat' first | refine pw_step rfl ?_ | refine pw_ret ?_ | refine wR ?_ | (refine wpG_split rfl rfl (fun hc => ?_) (fun hc => ?_) <;> try simp only [hcL] at hc) | (refine pw_cond _ rfl rfl (fun hc => ?_) (fun hc => ?_) <;> (try simp only [hcL] at hc) <;> try omega) | simp (disch := omega) only [go_sem, simprocAttr, hcl] | apply And.intro | omega | decide +kernel
     exact ret_ref (o := 901) rfl rfl (by simp) (by rw [List.take_of_length_le (by simp)]; rfl)
end Go.Proofs.YthbcmebhpabpnaaDoor
