/- Barycenters: small arguments, the chapter's example, the laws. -/
import Derived.Test.YtldbcbclhpcofaaBaF
import Derived.Test.YtldbcbclhpcofaaE
import Derived.Test.YtldbcbclhpcofaaCf
set_option linter.unusedSimpArgs false
set_option linter.unusedVariables false
namespace Go.Proofs.Ytldbcbclhpcofaa
open Go Go.PS Go.Proofs
open Go.Stb
set_option maxRecDepth 100000
attribute [local irreducible] wpRun wpG CallsTo CallsM

def long60 (y : List Int) : Bool := decide (60 < y.length)
def smallB (a : Lv) : Bool := decide ((0 ≤ a.1 ∧ a.1 ≤ 60) ∧ a.2.1.length ≤ 20 ∧ a.2.2.1.length ≤ 100 ∧ a.2.2.2.length ≤ 100) && !a.2.1.any long60 && !a.2.2.2.any long60
set_option maxHeartbeats 4000000 in
theorem smallB_spec (a : Lv) : CallsTo Try.prog 11 [lvD a] (.bool (smallB a)) := by
 rw [smallB]
 obtain ⟨n, ls, ar, cs⟩ := a
 dsimp only
 refine callsTo_of Try.func11 rfl (by decide +kernel) (Nat.le_of_ble_eq_true rfl) ?_
 intro hat B X w0
 have h1 := at_len2 0 1 hat rfl rfl
 have h2 := at_len2 0 2 hat rfl rfl
 have h3 := at_len2 0 3 hat rfl rfl
 rw [List.length_map] at h1 h2 h3
 dsimp only at h1 h2 h3
 by_cases c : (0 ≤ n ∧ n ≤ 60) ∧ ls.length ≤ 20 ∧ ar.length ≤ 100 ∧ cs.length ≤ 100
 ·rw [decide_eq_true c, Bool.true_and]
  obtain ⟨⟨c0, c1⟩, c2, c3, c4⟩ := c
  repeat' first | refine pw_seq ?_ | refine pw_skip ?_ | refine pw_ret ?_ | refine pw_exit ?_ | refine pw_block ?_ | refine pw_region (fun _ => false) hmix ?_ | (refine wpG_split rfl rfl (fun hc => ?_) (fun hc => ?_) <;> try simp only [hcL, reduceCtorEq] at hc) | (refine pw_cond _ rfl rfl (fun hc => ?_) (fun hc => ?_) <;> (try simp only [hcL, reduceCtorEq] at hc) <;> try (exfalso; omega)) | simp (maxSteps := 1000000) (disch := omega) only [go_sem, simprocAttr, List.append_eq] | apply And.intro | omega | decide +kernel
  refine pw_loopI (κ := Nat) (fun (k : Nat) => k ≤ ls.length ∧ ∀ (q : Nat) y, q < k → ls[q]? = some y → long60 y = false) (fun (k : Nat) => [(1, .ptr 1 0 0 0), (3, .int k)]) (fun (k : Nat) => [(1, .cells [.int n, .d (listsD ls), .d (arcsD ar), .d (listsD cs)])]) (fun (k : Nat) => ls.length - k) 0 ?_ ?_ ?_
  ·exact ⟨Nat.zero_le _, fun q y hq => by omega⟩
  ·exact eL [] _ _ (by refine ⟨?_, ?_⟩ <;> (repeat' first | exact List.forall_mem_nil _ | refine List.forall_mem_cons.2 ⟨(by first | rfl | (simp (disch := omega) only [go_sem, simprocAttr, inL]; first | done | omega | (congr 1; done))), ?_⟩); done)
  ·rintro k ⟨hk, hinv⟩
   rcases Nat.lt_or_ge k ls.length with hlt | hge
   ·obtain ⟨y, hy⟩ := get_some hlt
    by_cases cb : 60 < y.length
    ·rw [any_at hy (by rw [long60, decide_eq_true cb])]
     repeat' first | refine pw_seq ?_ | refine pw_skip ?_ | refine pw_ret ?_ | refine pw_exit ?_ | refine pw_block ?_ | refine pw_region (fun _ => false) hmix ?_ | (refine wpG_split rfl rfl (fun hc => ?_) (fun hc => ?_) <;> try simp only [hcL, reduceCtorEq] at hc) | (refine pw_cond _ rfl rfl (fun hc => ?_) (fun hc => ?_) <;> (try simp only [hcL, reduceCtorEq] at hc) <;> try (exfalso; omega)) | simp (maxSteps := 1000000) (disch := omega) only [go_sem, simprocAttr, hy, cb] | apply And.intro | omega | decide +kernel
     exact bool_some rfl
    ·repeat' first | refine pw_seq ?_ | refine pw_skip ?_ | refine pw_ret ?_ | refine pw_exit ?_ | refine pw_block ?_ | refine pw_region (fun _ => false) hmix ?_ | (refine wpG_split rfl rfl (fun hc => ?_) (fun hc => ?_) <;> try simp only [hcL, reduceCtorEq] at hc) | (refine pw_cond _ rfl rfl (fun hc => ?_) (fun hc => ?_) <;> (try simp only [hcL, reduceCtorEq] at hc) <;> try (exfalso; omega)) | simp (maxSteps := 1000000) (disch := omega) only [go_sem, simprocAttr, hy, cb] | apply And.intro | omega | decide +kernel
     refine ⟨k + 1, ?_, eL [] _ _ (by refine ⟨?_, ?_⟩ <;> (repeat' first | exact List.forall_mem_nil _ | refine List.forall_mem_cons.2 ⟨(by first | rfl | (simp (disch := omega) only [go_sem, simprocAttr, inL]; first | done | omega | (congr 1; done))), ?_⟩); done), ?_⟩
     ·exact ⟨by omega, upto_succ hinv hy (by rw [long60, decide_eq_false cb])⟩
     ·omega
   ·have : k = ls.length := by omega
    subst this
    rw [any_no (q := long60) (l := ls) fun j y hj hy => hinv j y hj hy]
    repeat' first | refine pw_seq ?_ | refine pw_skip ?_ | refine pw_ret ?_ | refine pw_exit ?_ | refine pw_block ?_ | refine pw_region (fun _ => false) hmix ?_ | (refine wpG_split rfl rfl (fun hc => ?_) (fun hc => ?_) <;> try simp only [hcL, reduceCtorEq] at hc) | (refine pw_cond _ rfl rfl (fun hc => ?_) (fun hc => ?_) <;> (try simp only [hcL, reduceCtorEq] at hc) <;> try (exfalso; omega)) | simp (maxSteps := 1000000) (disch := omega) only [go_sem, simprocAttr] | apply And.intro | omega | decide +kernel
    refine pw_loopI (κ := Nat) (fun (k : Nat) => k ≤ cs.length ∧ ∀ (q : Nat) y, q < k → cs[q]? = some y → long60 y = false) (fun (k : Nat) => [(1, .ptr 1 0 0 0), (4, .int k)]) (fun (k : Nat) => [(1, .cells [.int n, .d (listsD ls), .d (arcsD ar), .d (listsD cs)])]) (fun (k : Nat) => cs.length - k) 0 ?_ ?_ ?_
    ·exact ⟨Nat.zero_le _, fun q y hq => by omega⟩
    ·exact eL [] _ _ (by refine ⟨?_, ?_⟩ <;> (repeat' first | exact List.forall_mem_nil _ | refine List.forall_mem_cons.2 ⟨(by first | rfl | (simp (disch := omega) only [go_sem, simprocAttr, inL]; first | done | omega | (congr 1; done))), ?_⟩); done)
    ·rintro k ⟨hk, hinv⟩
     rcases Nat.lt_or_ge k cs.length with hlt | hge
     ·obtain ⟨y, hy⟩ := get_some hlt
      by_cases cb : 60 < y.length
      ·rw [any_at hy (by rw [long60, decide_eq_true cb])]
       repeat' first | refine pw_seq ?_ | refine pw_skip ?_ | refine pw_ret ?_ | refine pw_exit ?_ | refine pw_block ?_ | refine pw_region (fun _ => false) hmix ?_ | (refine wpG_split rfl rfl (fun hc => ?_) (fun hc => ?_) <;> try simp only [hcL, reduceCtorEq] at hc) | (refine pw_cond _ rfl rfl (fun hc => ?_) (fun hc => ?_) <;> (try simp only [hcL, reduceCtorEq] at hc) <;> try (exfalso; omega)) | simp (maxSteps := 1000000) (disch := omega) only [go_sem, simprocAttr, hy, cb] | apply And.intro | omega | decide +kernel
       exact bool_some rfl
      ·repeat' first | refine pw_seq ?_ | refine pw_skip ?_ | refine pw_ret ?_ | refine pw_exit ?_ | refine pw_block ?_ | refine pw_region (fun _ => false) hmix ?_ | (refine wpG_split rfl rfl (fun hc => ?_) (fun hc => ?_) <;> try simp only [hcL, reduceCtorEq] at hc) | (refine pw_cond _ rfl rfl (fun hc => ?_) (fun hc => ?_) <;> (try simp only [hcL, reduceCtorEq] at hc) <;> try (exfalso; omega)) | simp (maxSteps := 1000000) (disch := omega) only [go_sem, simprocAttr, hy, cb] | apply And.intro | omega | decide +kernel
       refine ⟨k + 1, ?_, eL [] _ _ (by refine ⟨?_, ?_⟩ <;> (repeat' first | exact List.forall_mem_nil _ | refine List.forall_mem_cons.2 ⟨(by first | rfl | (simp (disch := omega) only [go_sem, simprocAttr, inL]; first | done | omega | (congr 1; done))), ?_⟩); done), ?_⟩
       ·exact ⟨by omega, upto_succ hinv hy (by rw [long60, decide_eq_false cb])⟩
       ·omega
     ·have : k = cs.length := by omega
      subst this
      rw [any_no (q := long60) (l := cs) fun j y hj hy => hinv j y hj hy]
      repeat' first | refine pw_seq ?_ | refine pw_skip ?_ | refine pw_ret ?_ | refine pw_exit ?_ | refine pw_block ?_ | refine pw_region (fun _ => false) hmix ?_ | (refine wpG_split rfl rfl (fun hc => ?_) (fun hc => ?_) <;> try simp only [hcL, reduceCtorEq] at hc) | (refine pw_cond _ rfl rfl (fun hc => ?_) (fun hc => ?_) <;> (try simp only [hcL, reduceCtorEq] at hc) <;> try (exfalso; omega)) | simp (maxSteps := 1000000) (disch := omega) only [go_sem, simprocAttr] | apply And.intro | omega | decide +kernel
      exact bool_some rfl
 ·rw [decide_eq_false c]
  repeat' first | refine pw_seq ?_ | refine pw_skip ?_ | refine pw_ret ?_ | refine pw_exit ?_ | refine pw_block ?_ | refine pw_region (fun _ => false) hmix ?_ | (refine wpG_split rfl rfl (fun hc => ?_) (fun hc => ?_) <;> try simp only [hcL, reduceCtorEq] at hc) | (refine pw_cond _ rfl rfl (fun hc => ?_) (fun hc => ?_) <;> (try simp only [hcL, reduceCtorEq] at hc) <;> try (exfalso; omega)) | simp (maxSteps := 1000000) (disch := omega) only [go_sem, simprocAttr, List.append_eq] | apply And.intro | omega | decide +kernel
  all_goals exact bool_some rfl
theorem smallB_in {a : Lv} (h : smallB a = true) : a.2.2.1.length ≤ 100 := by
 simp only [smallB, Bool.and_eq_true, decide_eq_true_eq] at h
 exact h.1.1.2.2.1
/-! The chapter's example. -/
theorem bx_lay : barF cxL 1 0 = cxK := by simp only [barF, matOk, cxL_valid]; decide +kernel
theorem bx_sw : swB cxL = cxK := by decide +kernel
theorem bx_run : brnF cxL 1 = (cxK, 0) := by
 have h : bstB cxL 1 = cxK := by
  show (if TotalF (swB cxL) < TotalF cxL then swB cxL else cxL) = cxK
  rw [bx_sw, cx3, cx2, if_pos (by decide)]
 rw [brnF, if_pos cxL_valid, show rndB 1 = 1 from rfl, h, cx3]
theorem bx_c1 : cmpP [1, 2] [3] = -1 := by decide +kernel
theorem bx_c2 : cmpP [0, 1] [1, 0, 0, 1] = 0 := by decide +kernel
theorem bx_c3 : cmpP [] [0] = -1 := by decide +kernel
theorem bexample_spec : CallsTo Try.prog 22 [] (lvD cxL) := by
 simp only [cxL, List.map_cons, List.map_nil]
 refine callsTo_of Try.func22 rfl (by decide +kernel) (Nat.le_of_ble_eq_true rfl) ?_
 intro hat B X w0
 repeat' first | refine pw_seq ?_ | refine pw_skip ?_ | refine pw_ret ?_ | refine pw_exit ?_ | refine pw_block ?_ | refine pw_region (fun _ => false) hmix ?_ | (refine wpG_split rfl rfl (fun hc => ?_) (fun hc => ?_) <;> try simp only [hcL, reduceCtorEq] at hc) | (refine pw_cond _ rfl rfl (fun hc => ?_) (fun hc => ?_) <;> (try simp only [hcL, reduceCtorEq] at hc) <;> try (exfalso; omega)) | simp (maxSteps := 1000000) (disch := omega) only [go_sem, simprocAttr, List.append_eq] | apply And.intro | omega | decide +kernel
 refine ⟨_, _, _, _, rfl, ?_⟩
 simp (maxSteps := 1000000) (disch := omega) only [go_sem, simprocAttr, toD]
 rfl
set_option maxHeartbeats 4000000 in
theorem bAwake_spec : CallsTo Try.prog 8 [] (.bool true) := by
 have hwL : wide cxL := by
  intro y hy
  simp only [cxL, List.mem_cons, List.not_mem_nil, or_false] at hy
  rcases hy with rfl | rfl <;> decide
 have h0 := bexample_spec
 have h1 := bLayer_spec cxL 1 0 hwL (by decide)
 rw [bx_lay] at h1
 have h2 := bRun_spec cxL 1 hwL (by decide)
 rw [bx_run] at h2
 have h3 := bCompare_spec [1, 2] [3]
 rw [bx_c1] at h3
 have h4 := bCompare_spec [0, 1] [1, 0, 0, 1]
 rw [bx_c2] at h4
 have h5 := bCompare_spec [] [0]
 rw [bx_c3] at h5
 have h6 := sameI_spec [3, 2] [3, 2]
 rw [decide_eq_true rfl] at h6
 simp only [cxL, cxK, List.map_cons, List.map_nil] at h0 h1 h2 h3 h4 h5 h6
 refine callsTo_of Try.func8 rfl (by decide +kernel) (Nat.le_of_ble_eq_true rfl) ?_
 intro hat B X w0
 repeat' first | refine pw_seq ?_ | refine pw_skip ?_ | refine pw_ret ?_ | refine pw_exit ?_ | refine pw_block ?_ | refine pw_region (fun _ => false) hmix ?_ | (refine rc (h0) rfl ?_ ?_; (· first | rfl | (simp (disch := omega) only [go_sem, simprocAttr, List.append_eq, List.map_cons, List.map_nil]; done))) | (refine rc (h1) rfl ?_ ?_; (· first | rfl | (simp (disch := omega) only [go_sem, simprocAttr, List.append_eq, List.map_cons, List.map_nil]; done))) | (refine rc (h2) rfl ?_ ?_; (· first | rfl | (simp (disch := omega) only [go_sem, simprocAttr, List.append_eq, List.map_cons, List.map_nil]; done))) | (refine rc (h3) rfl ?_ ?_; (· first | rfl | (simp (disch := omega) only [go_sem, simprocAttr, List.append_eq, List.map_cons, List.map_nil]; done))) | (refine rc (h4) rfl ?_ ?_; (· first | rfl | (simp (disch := omega) only [go_sem, simprocAttr, List.append_eq, List.map_cons, List.map_nil]; done))) | (refine rc (h5) rfl ?_ ?_; (· first | rfl | (simp (disch := omega) only [go_sem, simprocAttr, List.append_eq, List.map_cons, List.map_nil]; done))) | (refine rc (h6) rfl ?_ ?_; (· first | rfl | (simp (disch := omega) only [go_sem, simprocAttr, List.append_eq, List.map_cons, List.map_nil]; done))) | (refine wpG_split rfl rfl (fun hc => ?_) (fun hc => ?_) <;> try simp only [hcL, reduceCtorEq] at hc) | (refine pw_cond _ rfl rfl (fun hc => ?_) (fun hc => ?_) <;> (try simp only [hcL, reduceCtorEq] at hc) <;> try (exfalso; omega)) | simp (maxSteps := 1000000) (disch := omega) only [go_sem, simprocAttr, List.append_eq, List.map_cons, List.map_nil] | apply And.intro | omega | decide +kernel
 exact bool_some rfl
theorem cmpP_abs (a b : List Int) : -1 ≤ cmpP a b ∧ cmpP a b ≤ 1 := by
 rw [cmpP]; split <;> rw [sg] <;> split <;> (try split) <;> omega
set_option maxHeartbeats 4000000 in
theorem lawCompares (a b : List Int) : CallsTo Try.prog 3 [intsD a, intsD b] (.bool true) := by
 have h9 := bAwake_spec
 have h1 := bCompare_spec a b
 have h2 := rCompare_spec a b
 have h3 := bCompare_spec b a
 have h4 := cmpP_anti a b
 have h5 := cmpP_abs a b
 generalize cmpP a b = c at *
 generalize cmpP b a = d at *
 refine callsTo_of Try.func3 rfl (by decide +kernel) (Nat.le_of_ble_eq_true rfl) ?_
 intro hat B X w0
 have hl1 := at_len 0 hat rfl
 have hl2 := at_len 1 hat rfl
 rw [List.length_map] at hl1 hl2
 by_cases hc1 : a.length ≤ 5000 ∧ b.length ≤ 5000
 ·obtain ⟨e1, e2⟩ := hc1
  repeat' first | refine pw_seq ?_ | refine pw_skip ?_ | refine pw_ret ?_ | refine pw_exit ?_ | refine pw_block ?_ | refine pw_region (fun _ => false) hmix ?_ | (refine rc (h1) rfl ?_ ?_; (· first | rfl | (simp (disch := omega) only [go_sem, simprocAttr, List.append_eq]; done))) | (refine rc (h2) rfl ?_ ?_; (· first | rfl | (simp (disch := omega) only [go_sem, simprocAttr, List.append_eq]; done))) | (refine rc (h3) rfl ?_ ?_; (· first | rfl | (simp (disch := omega) only [go_sem, simprocAttr, List.append_eq]; done))) | (refine rc (h9) rfl ?_ ?_; (· first | rfl | (simp (disch := omega) only [go_sem, simprocAttr, List.append_eq]; done))) | (refine wpG_split rfl rfl (fun hc => ?_) (fun hc => ?_) <;> try simp only [hcL, reduceCtorEq] at hc) | (refine pw_cond _ rfl rfl (fun hc => ?_) (fun hc => ?_) <;> (try simp only [hcL, reduceCtorEq] at hc) <;> try (exfalso; omega)) | simp (maxSteps := 1000000) (disch := omega) only [go_sem, simprocAttr, List.append_eq] | apply And.intro | omega | decide +kernel
  all_goals exact bool_some rfl
 ·repeat' first | refine pw_seq ?_ | refine pw_skip ?_ | refine pw_ret ?_ | refine pw_exit ?_ | refine pw_block ?_ | refine pw_region (fun _ => false) hmix ?_ | (refine rc (h9) rfl ?_ ?_; (· first | rfl | (simp (disch := omega) only [go_sem, simprocAttr, List.append_eq]; done))) | (refine wpG_split rfl rfl (fun hc => ?_) (fun hc => ?_) <;> try simp only [hcL, reduceCtorEq] at hc) | (refine pw_cond _ rfl rfl (fun hc => ?_) (fun hc => ?_) <;> (try simp only [hcL, reduceCtorEq] at hc) <;> try (exfalso; omega)) | simp (maxSteps := 1000000) (disch := omega) only [go_sem, simprocAttr, List.append_eq] | apply And.intro | omega | decide +kernel
  all_goals exact bool_some rfl
theorem same_selfB (a : Lv) : sameLv a a = true := by simp [sameLv]
set_option maxHeartbeats 4000000 in
theorem lawLayersB (a : Lv) (i f : Int) (hw : wide a) : CallsTo Try.prog 4 [lvD a, .int i, .int f] (.bool true) := by
 have h9 := bAwake_spec
 have h1 := smallB_spec a
 rcases hs : smallB a with _ | _ <;> rw [hs] at h1
 ·refine callsTo_of Try.func4 rfl (by decide +kernel) (Nat.le_of_ble_eq_true rfl) ?_
  intro hat B X w0
  repeat' first | refine pw_seq ?_ | refine pw_skip ?_ | refine pw_ret ?_ | refine pw_exit ?_ | refine pw_block ?_ | refine pw_region (fun _ => false) hmix ?_ | (refine rc (h1) rfl ?_ ?_; (· first | rfl | (simp (disch := omega) only [go_sem, simprocAttr, List.append_eq]; done))) | (refine rc (h9) rfl ?_ ?_; (· first | rfl | (simp (disch := omega) only [go_sem, simprocAttr, List.append_eq]; done))) | (refine wpG_split rfl rfl (fun hc => ?_) (fun hc => ?_) <;> try simp only [hcL, reduceCtorEq] at hc) | (refine pw_cond _ rfl rfl (fun hc => ?_) (fun hc => ?_) <;> (try simp only [hcL, reduceCtorEq] at hc) <;> try (exfalso; omega)) | simp (maxSteps := 1000000) (disch := omega) only [go_sem, simprocAttr, List.append_eq] | apply And.intro | omega | decide +kernel
  exact bool_some rfl
 ·have har := smallB_in hs
  have h2 := bLayer_spec a i f hw (by omega)
  have h3 := rLayerB_spec a i f hw (by omega)
  have h4 := rSame_spec (barF a i f) (barF a i f)
  rw [same_selfB] at h4
  generalize barF a i f = P at *
  obtain ⟨n', ls', ar', cs'⟩ := P
  refine callsTo_of Try.func4 rfl (by decide +kernel) (Nat.le_of_ble_eq_true rfl) ?_
  intro hat B X w0
  repeat' first | refine pw_seq ?_ | refine pw_skip ?_ | refine pw_ret ?_ | refine pw_exit ?_ | refine pw_block ?_ | refine pw_region (fun _ => false) hmix ?_ | (refine rc (h1) rfl ?_ ?_; (· first | rfl | (simp (disch := omega) only [go_sem, simprocAttr, List.append_eq]; done))) | (refine rc (h2) rfl ?_ ?_; (· first | rfl | (simp (disch := omega) only [go_sem, simprocAttr, List.append_eq]; done))) | (refine rc (h3) rfl ?_ ?_; (· first | rfl | (simp (disch := omega) only [go_sem, simprocAttr, List.append_eq]; done))) | (refine rc (h4) rfl ?_ ?_; (· first | rfl | (simp (disch := omega) only [go_sem, simprocAttr, List.append_eq]; done))) | (refine rc (h9) rfl ?_ ?_; (· first | rfl | (simp (disch := omega) only [go_sem, simprocAttr, List.append_eq]; done))) | (refine wpG_split rfl rfl (fun hc => ?_) (fun hc => ?_) <;> try simp only [hcL, reduceCtorEq] at hc) | (refine pw_cond _ rfl rfl (fun hc => ?_) (fun hc => ?_) <;> (try simp only [hcL, reduceCtorEq] at hc) <;> try (exfalso; omega)) | simp (maxSteps := 1000000) (disch := omega) only [go_sem, simprocAttr, List.append_eq] | apply And.intro | omega | decide +kernel
  exact bool_some rfl
set_option maxHeartbeats 4000000 in
theorem lawSweeps (a : Lv) (r : Int) (hw : wide a) : CallsTo Try.prog 7 [lvD a, .int r] (.bool true) := by
 have h9 := bAwake_spec
 have h1 := smallB_spec a
 rcases hs : smallB a with _ | _ <;> rw [hs] at h1
 ·refine callsTo_of Try.func7 rfl (by decide +kernel) (Nat.le_of_ble_eq_true rfl) ?_
  intro hat B X w0
  repeat' first | refine pw_seq ?_ | refine pw_skip ?_ | refine pw_ret ?_ | refine pw_exit ?_ | refine pw_block ?_ | refine pw_region (fun _ => false) hmix ?_ | (refine rc (h1) rfl ?_ ?_; (· first | rfl | (simp (disch := omega) only [go_sem, simprocAttr, List.append_eq]; done))) | (refine rc (h9) rfl ?_ ?_; (· first | rfl | (simp (disch := omega) only [go_sem, simprocAttr, List.append_eq]; done))) | (refine wpG_split rfl rfl (fun hc => ?_) (fun hc => ?_) <;> try simp only [hcL, reduceCtorEq] at hc) | (refine pw_cond _ rfl rfl (fun hc => ?_) (fun hc => ?_) <;> (try simp only [hcL, reduceCtorEq] at hc) <;> try (exfalso; omega)) | simp (maxSteps := 1000000) (disch := omega) only [go_sem, simprocAttr, List.append_eq] | apply And.intro | omega | decide +kernel
  exact bool_some rfl
 ·have har := smallB_in hs
  by_cases hr : 4 < r
  ·refine callsTo_of Try.func7 rfl (by decide +kernel) (Nat.le_of_ble_eq_true rfl) ?_
   intro hat B X w0
   repeat' first | refine pw_seq ?_ | refine pw_skip ?_ | refine pw_ret ?_ | refine pw_exit ?_ | refine pw_block ?_ | refine pw_region (fun _ => false) hmix ?_ | (refine rc (h1) rfl ?_ ?_; (· first | rfl | (simp (disch := omega) only [go_sem, simprocAttr, List.append_eq, hr]; done))) | (refine rc (h9) rfl ?_ ?_; (· first | rfl | (simp (disch := omega) only [go_sem, simprocAttr, List.append_eq, hr]; done))) | (refine wpG_split rfl rfl (fun hc => ?_) (fun hc => ?_) <;> try simp only [hcL, reduceCtorEq] at hc) | (refine pw_cond _ rfl rfl (fun hc => ?_) (fun hc => ?_) <;> (try simp only [hcL, reduceCtorEq] at hc) <;> try (exfalso; omega)) | simp (maxSteps := 1000000) (disch := omega) only [go_sem, simprocAttr, List.append_eq, hr] | apply And.intro | omega | decide +kernel
   exact bool_some rfl
  ·have h2 := bRun_spec a r hw (by omega)
   have h3 := rRunB_spec a r hw (by omega)
   have h4 := bSweep_spec a hw (by omega)
   have h5 := rSweep_spec a hw (by omega)
   have h6 := rSame_spec (brnF a r).1 (brnF a r).1
   have h7 := rSame_spec (swpF a) (swpF a)
   rw [same_selfB] at h6 h7
   generalize swpF a = S at *
   generalize brnF a r = P at *
   obtain ⟨n1, ls1, ar1, cs1⟩ := S
   obtain ⟨⟨n', ls', ar', cs'⟩, t⟩ := P
   dsimp only at h2 h3 h6
   refine callsTo_of Try.func7 rfl (by decide +kernel) (Nat.le_of_ble_eq_true rfl) ?_
   intro hat B X w0
   repeat' first | refine pw_seq ?_ | refine pw_skip ?_ | refine pw_ret ?_ | refine pw_exit ?_ | refine pw_block ?_ | refine pw_region (fun _ => false) hmix ?_ | (refine rc (h1) rfl ?_ ?_; (· first | rfl | (simp (disch := omega) only [go_sem, simprocAttr, List.append_eq, hr]; done))) | (refine rc (h2) rfl ?_ ?_; (· first | rfl | (simp (disch := omega) only [go_sem, simprocAttr, List.append_eq, hr]; done))) | (refine rc (h3) rfl ?_ ?_; (· first | rfl | (simp (disch := omega) only [go_sem, simprocAttr, List.append_eq, hr]; done))) | (refine rc (h4) rfl ?_ ?_; (· first | rfl | (simp (disch := omega) only [go_sem, simprocAttr, List.append_eq, hr]; done))) | (refine rc (h5) rfl ?_ ?_; (· first | rfl | (simp (disch := omega) only [go_sem, simprocAttr, List.append_eq, hr]; done))) | (refine rc (h6) rfl ?_ ?_; (· first | rfl | (simp (disch := omega) only [go_sem, simprocAttr, List.append_eq, hr]; done))) | (refine rc (h7) rfl ?_ ?_; (· first | rfl | (simp (disch := omega) only [go_sem, simprocAttr, List.append_eq, hr]; done))) | (refine rc (h9) rfl ?_ ?_; (· first | rfl | (simp (disch := omega) only [go_sem, simprocAttr, List.append_eq, hr]; done))) | (refine wpG_split rfl rfl (fun hc => ?_) (fun hc => ?_) <;> try simp only [hcL, reduceCtorEq] at hc) | (refine pw_cond _ rfl rfl (fun hc => ?_) (fun hc => ?_) <;> (try simp only [hcL, reduceCtorEq] at hc) <;> try (exfalso; omega)) | simp (maxSteps := 1000000) (disch := omega) only [go_sem, simprocAttr, List.append_eq, hr] | apply And.intro | omega | decide +kernel
   exact bool_some rfl
set_option maxHeartbeats 4000000 in
theorem lawImproves (a : Lv) (r : Int) (hw : wide a) : CallsTo Try.prog 5 [lvD a, .int r] (.bool true) := by
 have h9 := bAwake_spec
 have h1 := smallB_spec a
 rcases hs : smallB a with _ | _ <;> rw [hs] at h1
 ·refine callsTo_of Try.func5 rfl (by decide +kernel) (Nat.le_of_ble_eq_true rfl) ?_
  intro hat B X w0
  repeat' first | refine pw_seq ?_ | refine pw_skip ?_ | refine pw_ret ?_ | refine pw_exit ?_ | refine pw_block ?_ | refine pw_region (fun _ => false) hmix ?_ | (refine rc (h1) rfl ?_ ?_; (· first | rfl | (simp (disch := omega) only [go_sem, simprocAttr, List.append_eq]; done))) | (refine rc (h9) rfl ?_ ?_; (· first | rfl | (simp (disch := omega) only [go_sem, simprocAttr, List.append_eq]; done))) | (refine wpG_split rfl rfl (fun hc => ?_) (fun hc => ?_) <;> try simp only [hcL, reduceCtorEq] at hc) | (refine pw_cond _ rfl rfl (fun hc => ?_) (fun hc => ?_) <;> (try simp only [hcL, reduceCtorEq] at hc) <;> try (exfalso; omega)) | simp (maxSteps := 1000000) (disch := omega) only [go_sem, simprocAttr, List.append_eq] | apply And.intro | omega | decide +kernel
  exact bool_some rfl
 ·have har := smallB_in hs
  have h0 := rLvValid_spec a hw
  rw [← valid_same] at h0
  by_cases hr : 0 ≤ r ∧ r ≤ 6
  ·rcases hv : validF a with _ | _ <;> rw [hv] at h0
   ·refine callsTo_of Try.func5 rfl (by decide +kernel) (Nat.le_of_ble_eq_true rfl) ?_
    intro hat B X w0
    repeat' first | refine pw_seq ?_ | refine pw_skip ?_ | refine pw_ret ?_ | refine pw_exit ?_ | refine pw_block ?_ | refine pw_region (fun _ => false) hmix ?_ | (refine rc (h0) rfl ?_ ?_; (· first | rfl | (simp (disch := omega) only [go_sem, simprocAttr, List.append_eq]; done))) | (refine rc (h1) rfl ?_ ?_; (· first | rfl | (simp (disch := omega) only [go_sem, simprocAttr, List.append_eq]; done))) | (refine rc (h9) rfl ?_ ?_; (· first | rfl | (simp (disch := omega) only [go_sem, simprocAttr, List.append_eq]; done))) | (refine wpG_split rfl rfl (fun hc => ?_) (fun hc => ?_) <;> try simp only [hcL, reduceCtorEq] at hc) | (refine pw_cond _ rfl rfl (fun hc => ?_) (fun hc => ?_) <;> (try simp only [hcL, reduceCtorEq] at hc) <;> try (exfalso; omega)) | simp (maxSteps := 1000000) (disch := omega) only [go_sem, simprocAttr, List.append_eq] | apply And.intro | omega | decide +kernel
    exact bool_some rfl
   ·obtain ⟨r, rfl⟩ : ∃ m : Nat, r = m := ⟨r.toNat, by omega⟩
    have h2 := bRun_spec a r hw (by omega)
    have h3 := bRun_spec a (r + 1) hw (by omega)
    rw [brnF, if_pos hv, show rndB r = r by rw [rndB]; omega] at h2
    rw [brnF, if_pos hv, show rndB ((r : Int) + 1) = r + 1 by rw [rndB]; omega] at h3
    have hK := bstB_kin hv hw r
    have h4 := rLvValid_spec (bstB a r) hK.wd
    rw [← valid_same, hK.ok] at h4
    have t1 := (lv_le hv).1
    have h5 := rTotal_spec (bstB a r) hK.wd (by rw [hK.len]; omega)
    have h6 := rTotal_spec a hw (by omega)
    rw [← total_same] at h5 h6
    have b1 := bstB_le a r
    have b2 := bstB_step a r
    dsimp only at h2 h3
    clear hK
    generalize bstB a (r + 1) = Q at *
    generalize bstB a r = P at *
    generalize TotalF Q = tq at *
    generalize TotalF P = tp at *
    generalize TotalF a = ta at *
    obtain ⟨n1, ls1, ar1, cs1⟩ := Q
    obtain ⟨n', ls', ar', cs'⟩ := P
    refine callsTo_of Try.func5 rfl (by decide +kernel) (Nat.le_of_ble_eq_true rfl) ?_
    intro hat B X w0
    repeat' first | refine pw_seq ?_ | refine pw_skip ?_ | refine pw_ret ?_ | refine pw_exit ?_ | refine pw_block ?_ | refine pw_region (fun _ => false) hmix ?_ | (refine rc (h0) rfl ?_ ?_; (· first | rfl | (simp (disch := omega) only [go_sem, simprocAttr, List.append_eq]; done))) | (refine rc (h1) rfl ?_ ?_; (· first | rfl | (simp (disch := omega) only [go_sem, simprocAttr, List.append_eq]; done))) | (refine rc (h2) rfl ?_ ?_; (· first | rfl | (simp (disch := omega) only [go_sem, simprocAttr, List.append_eq]; done))) | (refine rc (h3) rfl ?_ ?_; (· first | rfl | (simp (disch := omega) only [go_sem, simprocAttr, List.append_eq]; done))) | (refine rc (h4) rfl ?_ ?_; (· first | rfl | (simp (disch := omega) only [go_sem, simprocAttr, List.append_eq]; done))) | (refine rc (h5) rfl ?_ ?_; (· first | rfl | (simp (disch := omega) only [go_sem, simprocAttr, List.append_eq]; done))) | (refine rc (h6) rfl ?_ ?_; (· first | rfl | (simp (disch := omega) only [go_sem, simprocAttr, List.append_eq]; done))) | (refine rc (h9) rfl ?_ ?_; (· first | rfl | (simp (disch := omega) only [go_sem, simprocAttr, List.append_eq]; done))) | (refine wpG_split rfl rfl (fun hc => ?_) (fun hc => ?_) <;> try simp only [hcL, reduceCtorEq] at hc) | (refine pw_cond _ rfl rfl (fun hc => ?_) (fun hc => ?_) <;> (try simp only [hcL, reduceCtorEq] at hc) <;> try (exfalso; omega)) | simp (maxSteps := 1000000) (disch := omega) only [go_sem, simprocAttr, List.append_eq] | apply And.intro | omega | decide +kernel
    all_goals exact bool_some rfl
  ·refine callsTo_of Try.func5 rfl (by decide +kernel) (Nat.le_of_ble_eq_true rfl) ?_
   intro hat B X w0
   repeat' first | refine pw_seq ?_ | refine pw_skip ?_ | refine pw_ret ?_ | refine pw_exit ?_ | refine pw_block ?_ | refine pw_region (fun _ => false) hmix ?_ | (refine rc (h1) rfl ?_ ?_; (· first | rfl | (simp (disch := omega) only [go_sem, simprocAttr, List.append_eq]; done))) | (refine rc (h9) rfl ?_ ?_; (· first | rfl | (simp (disch := omega) only [go_sem, simprocAttr, List.append_eq]; done))) | (refine wpG_split rfl rfl (fun hc => ?_) (fun hc => ?_) <;> try simp only [hcL, reduceCtorEq] at hc) | (refine pw_cond _ rfl rfl (fun hc => ?_) (fun hc => ?_) <;> (try simp only [hcL, reduceCtorEq] at hc) <;> try (exfalso; omega)) | simp (maxSteps := 1000000) (disch := omega) only [go_sem, simprocAttr, List.append_eq] | apply And.intro | omega | decide +kernel
   all_goals exact bool_some rfl
/-! Vertices without neighbors in the fixed layer. -/
def nearB (v : Int) (i f : Nat) (x : Arc) : Bool := (decide (x.2 = v) && decide ((f : Int) = (i : Int) - 1)) || (decide (x.1 = v) && decide ((f : Int) = (i : Int) + 1))
theorem alone_keeps {a : Lv} (hv : validF a = true) {i f : Nat} {y z : List Int} (hy : a.2.1[i]? = some y) (hz : a.2.1[f]? = some z) {k : Nat} (hk : k < y.length)
  (h : a.2.2.1.any (nearB (at0 y k) i f) = false) : (ordB y z a.2.2.1)[k]? = some (at0 y k) := by
 have hn := valid_nodup hv
 have hnone : hasN y z a.2.2.1 k = false := by
  rw [hasN, Bool.not_eq_false', List.isEmpty_iff]
  rw [plcF, List.flatMap_eq_nil_iff]
  intro x hx
  obtain ⟨j, hj⟩ := List.getElem?_of_mem hx
  obtain ⟨r, p, q, u1, u2⟩ := valid_joins hv hj
  have hlv : Lies a.2.1 (at0 y k) i k := ⟨y, hy, at0_at hk⟩
  have hnb : nearB (at0 y k) i f x = false := by
   rw [List.any_eq_false] at h
   exact Bool.eq_false_iff.2 (h x hx)
  rw [nearB, Bool.or_eq_false_iff, Bool.and_eq_false_iff, Bool.and_eq_false_iff, decide_eq_false_iff_not, decide_eq_false_iff_not, decide_eq_false_iff_not, decide_eq_false_iff_not] at hnb
  rw [plcA, if_neg, if_neg]
  ·rfl
  ·rintro ⟨e1, e2⟩
   rw [e1] at u2
   have e3 := Lies.layer hn u2 hlv
   have e4 := Lies.placeF hn u1 hz
   rw [e4] at e2
   by_cases c : r = f
   ·rcases hnb.1 with h1 | h1
    ·exact h1 e1
    ·exact h1 (by omega)
   ·rw [if_neg c] at e2; omega
  ·rintro ⟨e1, e2⟩
   rw [e1] at u1
   have e3 := Lies.layer hn u1 hlv
   have e4 := Lies.placeF hn u2 hz
   rw [e4] at e2
   by_cases c : r + 1 = f
   ·rcases hnb.2 with h1 | h1
    ·exact h1 e1
    ·exact h1 (by omega)
   ·rw [if_neg c] at e2; omega
 rw [ordB, List.getElem?_map, List.getElem?_range hk, Option.map_some, if_neg (by rw [hnone]; decide)]
set_option maxHeartbeats 16000000 in
theorem lawKeepsB (a : Lv) (i f : Int) (hw : wide a) : CallsTo Try.prog 6 [lvD a, .int i, .int f] (.bool true) := by
 have h9 := bAwake_spec
 have h1 := smallB_spec a
 rcases hs : smallB a with _ | _ <;> rw [hs] at h1
 ·refine callsTo_of Try.func6 rfl (by decide +kernel) (Nat.le_of_ble_eq_true rfl) ?_
  intro hat B X w0
  repeat' first | refine pw_seq ?_ | refine pw_skip ?_ | refine pw_ret ?_ | refine pw_exit ?_ | refine pw_block ?_ | refine pw_region (fun _ => false) hmix ?_ | (refine rc (h1) rfl ?_ ?_; (· first | rfl | (simp (disch := omega) only [go_sem, simprocAttr, List.append_eq]; done))) | (refine rc (h9) rfl ?_ ?_; (· first | rfl | (simp (disch := omega) only [go_sem, simprocAttr, List.append_eq]; done))) | (refine wpG_split rfl rfl (fun hc => ?_) (fun hc => ?_) <;> try simp only [hcL, reduceCtorEq] at hc) | (refine pw_cond _ rfl rfl (fun hc => ?_) (fun hc => ?_) <;> (try simp only [hcL, reduceCtorEq] at hc) <;> try (exfalso; omega)) | simp (maxSteps := 1000000) (disch := omega) only [go_sem, simprocAttr, List.append_eq] | apply And.intro | omega | decide +kernel
  exact bool_some rfl
 ·have har := smallB_in hs
  have h0 := rLvValid_spec a hw
  rw [← valid_same] at h0
  rcases hm : matOk a i f with _ | _
  ·rw [matOk] at hm
   rcases hv : validF a with _ | _ <;> rw [hv] at h0 hm
   ·refine callsTo_of Try.func6 rfl (by decide +kernel) (Nat.le_of_ble_eq_true rfl) ?_
    intro hat B X w0
    repeat' first | refine pw_seq ?_ | refine pw_skip ?_ | refine pw_ret ?_ | refine pw_exit ?_ | refine pw_block ?_ | refine pw_region (fun _ => false) hmix ?_ | (refine rc (h0) rfl ?_ ?_; (· first | rfl | (simp (disch := omega) only [go_sem, simprocAttr, List.append_eq]; done))) | (refine rc (h1) rfl ?_ ?_; (· first | rfl | (simp (disch := omega) only [go_sem, simprocAttr, List.append_eq]; done))) | (refine rc (h9) rfl ?_ ?_; (· first | rfl | (simp (disch := omega) only [go_sem, simprocAttr, List.append_eq]; done))) | (refine wpG_split rfl rfl (fun hc => ?_) (fun hc => ?_) <;> try simp only [hcL, reduceCtorEq] at hc) | (refine pw_cond _ rfl rfl (fun hc => ?_) (fun hc => ?_) <;> (try simp only [hcL, reduceCtorEq] at hc) <;> try (exfalso; omega)) | simp (maxSteps := 1000000) (disch := omega) only [go_sem, simprocAttr, List.append_eq] | apply And.intro | omega | decide +kernel
    exact bool_some rfl
   ·obtain ⟨t1, t2⟩ := lv_le hv
    have hn : ¬ (((0 ≤ i ∧ i < a.2.1.length) ∧ (0 ≤ f ∧ f < a.2.1.length)) ∧ (f = i - 1 ∨ f = i + 1)) := by simpa [and_assoc] using hm
    obtain ⟨n, ls, ar, cs⟩ := a
    dsimp only at t1 t2 hn
    refine callsTo_of Try.func6 rfl (by decide +kernel) (Nat.le_of_ble_eq_true rfl) ?_
    intro hat B X w0
    repeat' first | refine pw_seq ?_ | refine pw_skip ?_ | refine pw_ret ?_ | refine pw_exit ?_ | refine pw_block ?_ | refine pw_region (fun _ => false) hmix ?_ | (refine rc (h0) rfl ?_ ?_; (· first | rfl | (simp (disch := omega) only [go_sem, simprocAttr, List.append_eq]; done))) | (refine rc (h1) rfl ?_ ?_; (· first | rfl | (simp (disch := omega) only [go_sem, simprocAttr, List.append_eq]; done))) | (refine rc (h9) rfl ?_ ?_; (· first | rfl | (simp (disch := omega) only [go_sem, simprocAttr, List.append_eq]; done))) | (refine wpG_split rfl rfl (fun hc => ?_) (fun hc => ?_) <;> try simp only [hcL, reduceCtorEq] at hc) | (refine pw_cond _ rfl rfl (fun hc => ?_) (fun hc => ?_) <;> (try simp only [hcL, reduceCtorEq] at hc) <;> try (exfalso; omega)) | simp (maxSteps := 1000000) (disch := omega) only [go_sem, simprocAttr, List.append_eq] | apply And.intro | omega | decide +kernel
    all_goals exact bool_some rfl
  ·have h2 := bLayer_spec a i f hw (by omega)
   rw [barF, if_pos hm] at h2
   obtain ⟨hv, hi, hf, hif⟩ := matOk_in hm
   rw [hv] at h0
   obtain ⟨t1, t2⟩ := lv_le hv
   obtain ⟨i, rfl⟩ : ∃ n : Nat, i = n := ⟨i.toNat, by omega⟩
   obtain ⟨f, rfl⟩ : ∃ n : Nat, f = n := ⟨f.toNat, by omega⟩
   rw [Int.toNat_natCast, Int.toNat_natCast] at h2
   obtain ⟨y, hy⟩ := get_some (l := a.2.1) (k := i) (by omega)
   obtain ⟨z, hz⟩ := get_some (l := a.2.1) (k := f) (by omega)
   have hyl := tot_mem (List.mem_of_getElem? hy)
   have hK := layB_kin (Kin.refl hv hw) (i := i) (by omega) f
   have hlay : layB a i f = putL a i (ordB y z a.2.2.1) := by rw [layB, lstN_at hy, lstN_at hz]
   have h3 := rLvValid_spec (layB a i f) hK.wd
   rw [← valid_same, hK.ok] at h3
   have h4 := rReorder_spec a i (ordB y z a.2.2.1) hw (by rw [ordB_len]; omega)
   rw [reorder_perm hv hy (ordB_perm (layer_nodup hv hy) z a.2.2.1), ← hlay] at h4
   have hOl : (layB a i f).2.1[i]? = some (ordB y z a.2.2.1) := by rw [hlay]; exact List.getElem?_set_self (by omega)
   have hPl := hK.len
   have h5 := rSame_spec (layB a i f) (layB a i f)
   rw [same_selfB] at h5
   have hal := fun k (hk : k < y.length) => alone_keeps hv hy hz hk
   have hOy := ordB_len y z a.2.2.1
   clear hK hlay
   generalize layB a i f = P at *
   generalize ordB y z a.2.2.1 = O at *
   obtain ⟨n', ls', ar', cs'⟩ := P
   obtain ⟨n, ls, ar, cs⟩ := a
   dsimp only at *
   refine callsTo_of Try.func6 rfl (by decide +kernel) (Nat.le_of_ble_eq_true rfl) ?_
   intro hat B X w0
   repeat' first | refine pw_seq ?_ | refine pw_skip ?_ | refine pw_ret ?_ | refine pw_exit ?_ | refine pw_block ?_ | refine pw_region (fun _ => false) hmix ?_ | (refine rc (h0) rfl ?_ ?_; (· first | rfl | (simp (disch := omega) only [go_sem, simprocAttr, List.append_eq, hOl, hPl]; done))) | (refine rc (h1) rfl ?_ ?_; (· first | rfl | (simp (disch := omega) only [go_sem, simprocAttr, List.append_eq, hOl, hPl]; done))) | (refine rc (h2) rfl ?_ ?_; (· first | rfl | (simp (disch := omega) only [go_sem, simprocAttr, List.append_eq, hOl, hPl]; done))) | (refine rc (h3) rfl ?_ ?_; (· first | rfl | (simp (disch := omega) only [go_sem, simprocAttr, List.append_eq, hOl, hPl]; done))) | (refine rc (h4) rfl ?_ ?_; (· first | rfl | (simp (disch := omega) only [go_sem, simprocAttr, List.append_eq, hOl, hPl]; done))) | (refine rc (h5) rfl ?_ ?_; (· first | rfl | (simp (disch := omega) only [go_sem, simprocAttr, List.append_eq, hOl, hPl]; done))) | (refine wpG_split rfl rfl (fun hc => ?_) (fun hc => ?_) <;> try simp only [hcL, reduceCtorEq] at hc) | (refine pw_cond _ rfl rfl (fun hc => ?_) (fun hc => ?_) <;> (try simp only [hcL, reduceCtorEq] at hc) <;> try (exfalso; omega)) | simp (maxSteps := 1000000) (disch := omega) only [go_sem, simprocAttr, List.append_eq, hOl, hPl] | apply And.intro | omega | decide +kernel
   all_goals
    refine pw_loopI (κ := Nat) (fun (k : Nat) => k ≤ y.length) (fun (k : Nat) => [(1, .int i), (2, .int f), (3, .ptr 3 0 0 0), (7, .ptr 7 0 0 0), (10, .int k)]) (fun (k : Nat) => [(3, .cells [.int n, .d (listsD ls), .d (arcsD ar), .d (listsD cs)]), (7, .cells [.int n', .d (listsD ls'), .d (arcsD ar'), .d (listsD cs')])]) (fun (k : Nat) => y.length - k) 0 ?_ ?_ ?_
    ·exact Nat.zero_le _
    ·exact eL [] _ _ (by refine ⟨?_, ?_⟩ <;> (repeat' first | exact List.forall_mem_nil _ | refine List.forall_mem_cons.2 ⟨(by first | rfl | (simp (disch := omega) only [go_sem, simprocAttr, inL]; first | done | omega | (congr 1; done))), ?_⟩); done)
    ·intro k hk
     rcases Nat.lt_or_ge k y.length with hlt | hge
     ·have gk := at0_at (r := y) (i := k) hlt
      have ha := hal k hlt
      obtain ⟨o, ho⟩ := get_some (l := O) (k := k) (by omega)
      rw [ho, Option.some.injEq] at ha
      have hno := at0_at (r := y) (i := k) hlt
      generalize at0 y k = v at *
      have hnb : ∀ x : Arc, nearB v i f x = ((decide (x.2 = v) && decide ((f : Int) = (i : Int) - 1)) || (decide (x.1 = v) && decide ((f : Int) = (i : Int) + 1))) := fun _ => rfl
      generalize nearB v i f = NB at *
      repeat' first | refine pw_seq ?_ | refine pw_skip ?_ | refine pw_ret ?_ | refine pw_exit ?_ | refine pw_block ?_ | refine pw_region (fun _ => false) hmix ?_ | (refine wpG_split rfl rfl (fun hc => ?_) (fun hc => ?_) <;> try simp only [hcL, reduceCtorEq] at hc) | (refine pw_cond _ rfl rfl (fun hc => ?_) (fun hc => ?_) <;> (try simp only [hcL, reduceCtorEq] at hc) <;> try (exfalso; omega)) | simp (maxSteps := 1000000) (disch := omega) only [go_sem, simprocAttr, hy, gk] | apply And.intro | omega | decide +kernel
      refine pw_loopI (κ := Nat) (fun (m : Nat) => m ≤ ar.length) (fun (m : Nat) => [(1, .int i), (2, .int f), (3, .ptr 3 0 0 0), (7, .ptr 7 0 0 0), (10, .int k), (11, .int v), (12, .bool (!(ar.take m).any NB)), (13, .int m)]) (fun (m : Nat) => [(3, .cells [.int n, .d (listsD ls), .d (arcsD ar), .d (listsD cs)]), (7, .cells [.int n', .d (listsD ls'), .d (arcsD ar'), .d (listsD cs')])]) (fun (m : Nat) => ar.length - m) 0 ?_ ?_ ?_
      ·exact Nat.zero_le _
      ·exact eL [] _ _ (by refine ⟨?_, ?_⟩ <;> (repeat' first | exact List.forall_mem_nil _ | refine List.forall_mem_cons.2 ⟨(by first | rfl | (simp (disch := omega) only [go_sem, simprocAttr, inL, List.take_zero, List.any_nil, Bool.not_false]; first | done | omega | (congr 1; done))), ?_⟩); done)
      ·intro m hm
       rcases Nat.lt_or_ge m ar.length with hlm | hgm
       ·obtain ⟨x, hx⟩ := get_some hlm
        have e1 : (!(ar.take (m + 1)).any NB) = ((!(ar.take m).any NB) && !NB x) := by
         rw [take_snoc hx, List.any_append, List.any_cons, List.any_nil, Bool.or_false, Bool.not_or]
        have e2 := hnb x
        obtain ⟨s, t⟩ := x
        dsimp only at e2
        rcases hb : (!(ar.take m).any NB) with _ | _
        ·rw [hb, Bool.false_and] at e1
         repeat' first | refine pw_seq ?_ | refine pw_skip ?_ | refine pw_ret ?_ | refine pw_exit ?_ | refine pw_block ?_ | refine pw_region (fun _ => false) hmix ?_ | (refine wpG_split rfl rfl (fun hc => ?_) (fun hc => ?_) <;> try simp only [hcL, reduceCtorEq] at hc) | (refine pw_cond _ rfl rfl (fun hc => ?_) (fun hc => ?_) <;> (try simp only [hcL, reduceCtorEq] at hc) <;> try (exfalso; omega)) | simp (maxSteps := 1000000) (disch := omega) only [go_sem, simprocAttr, List.append_eq, hx] | apply And.intro | omega | decide +kernel
         all_goals
          refine ⟨m + 1, ?_, eL [] _ _ (by refine ⟨?_, ?_⟩ <;> (repeat' first | exact List.forall_mem_nil _ | refine List.forall_mem_cons.2 ⟨(by first | rfl | (simp (disch := omega) only [go_sem, simprocAttr, inL, e1]; first | done | omega | (congr 1; done))), ?_⟩); done), ?_⟩
          ·omega
          ·omega
        ·rw [hb, Bool.true_and] at e1
         rcases hif with hif | hif
         ·have f1 : ((f : Int) = (i : Int) - 1) = True := eq_true hif
          have f2 : ((f : Int) = (i : Int) + 1) = False := eq_false (by omega)
          simp only [f1, f2, decide_true, decide_false, Bool.and_true, Bool.and_false, Bool.or_false] at e2
          rw [e2] at e1
          by_cases q : t = v
          ·rw [decide_eq_true q] at e1
           repeat' first | refine pw_seq ?_ | refine pw_skip ?_ | refine pw_ret ?_ | refine pw_exit ?_ | refine pw_block ?_ | refine pw_region (fun _ => false) hmix ?_ | (refine wpG_split rfl rfl (fun hc => ?_) (fun hc => ?_) <;> try simp only [hcL, reduceCtorEq] at hc) | (refine pw_cond _ rfl rfl (fun hc => ?_) (fun hc => ?_) <;> (try simp only [hcL, reduceCtorEq] at hc) <;> try (exfalso; omega)) | simp (maxSteps := 1000000) (disch := omega) only [go_sem, simprocAttr, List.append_eq, hx, f1, f2, q] | apply And.intro | omega | decide +kernel
           all_goals
            refine ⟨m + 1, ?_, eL [] _ _ (by refine ⟨?_, ?_⟩ <;> (repeat' first | exact List.forall_mem_nil _ | refine List.forall_mem_cons.2 ⟨(by first | rfl | (simp (disch := omega) only [go_sem, simprocAttr, inL, e1, Bool.not_true]; first | done | omega | (congr 1; done))), ?_⟩); done), ?_⟩
            ·omega
            ·omega
          ·rw [decide_eq_false q] at e1
           repeat' first | refine pw_seq ?_ | refine pw_skip ?_ | refine pw_ret ?_ | refine pw_exit ?_ | refine pw_block ?_ | refine pw_region (fun _ => false) hmix ?_ | (refine wpG_split rfl rfl (fun hc => ?_) (fun hc => ?_) <;> try simp only [hcL, reduceCtorEq] at hc) | (refine pw_cond _ rfl rfl (fun hc => ?_) (fun hc => ?_) <;> (try simp only [hcL, reduceCtorEq] at hc) <;> try (exfalso; omega)) | simp (maxSteps := 1000000) (disch := omega) only [go_sem, simprocAttr, List.append_eq, hx, f1, f2, q] | apply And.intro | omega | decide +kernel
           all_goals
            refine ⟨m + 1, ?_, eL [] _ _ (by refine ⟨?_, ?_⟩ <;> (repeat' first | exact List.forall_mem_nil _ | refine List.forall_mem_cons.2 ⟨(by first | rfl | (simp (disch := omega) only [go_sem, simprocAttr, inL, e1, Bool.not_false]; first | done | omega | (congr 1; done))), ?_⟩); done), ?_⟩
            ·omega
            ·omega
         ·have f1 : ((f : Int) = (i : Int) - 1) = False := eq_false (by omega)
          have f2 : ((f : Int) = (i : Int) + 1) = True := eq_true hif
          simp only [f1, f2, decide_true, decide_false, Bool.and_true, Bool.and_false, Bool.false_or] at e2
          rw [e2] at e1
          by_cases q : s = v
          ·rw [decide_eq_true q] at e1
           repeat' first | refine pw_seq ?_ | refine pw_skip ?_ | refine pw_ret ?_ | refine pw_exit ?_ | refine pw_block ?_ | refine pw_region (fun _ => false) hmix ?_ | (refine wpG_split rfl rfl (fun hc => ?_) (fun hc => ?_) <;> try simp only [hcL, reduceCtorEq] at hc) | (refine pw_cond _ rfl rfl (fun hc => ?_) (fun hc => ?_) <;> (try simp only [hcL, reduceCtorEq] at hc) <;> try (exfalso; omega)) | simp (maxSteps := 1000000) (disch := omega) only [go_sem, simprocAttr, List.append_eq, hx, f1, f2, q] | apply And.intro | omega | decide +kernel
           all_goals
            refine ⟨m + 1, ?_, eL [] _ _ (by refine ⟨?_, ?_⟩ <;> (repeat' first | exact List.forall_mem_nil _ | refine List.forall_mem_cons.2 ⟨(by first | rfl | (simp (disch := omega) only [go_sem, simprocAttr, inL, e1, Bool.not_true]; first | done | omega | (congr 1; done))), ?_⟩); done), ?_⟩
            ·omega
            ·omega
          ·rw [decide_eq_false q] at e1
           repeat' first | refine pw_seq ?_ | refine pw_skip ?_ | refine pw_ret ?_ | refine pw_exit ?_ | refine pw_block ?_ | refine pw_region (fun _ => false) hmix ?_ | (refine wpG_split rfl rfl (fun hc => ?_) (fun hc => ?_) <;> try simp only [hcL, reduceCtorEq] at hc) | (refine pw_cond _ rfl rfl (fun hc => ?_) (fun hc => ?_) <;> (try simp only [hcL, reduceCtorEq] at hc) <;> try (exfalso; omega)) | simp (maxSteps := 1000000) (disch := omega) only [go_sem, simprocAttr, List.append_eq, hx, f1, f2, q] | apply And.intro | omega | decide +kernel
           all_goals
            refine ⟨m + 1, ?_, eL [] _ _ (by refine ⟨?_, ?_⟩ <;> (repeat' first | exact List.forall_mem_nil _ | refine List.forall_mem_cons.2 ⟨(by first | rfl | (simp (disch := omega) only [go_sem, simprocAttr, inL, e1, Bool.not_false]; first | done | omega | (congr 1; done))), ?_⟩); done), ?_⟩
            ·omega
            ·omega
       ·have : m = ar.length := by omega
        subst this
        rw [List.take_length]
        rcases hb : ar.any NB with _ | _
        ·have hov := ha hb
         repeat' first | refine pw_seq ?_ | refine pw_skip ?_ | refine pw_ret ?_ | refine pw_exit ?_ | refine pw_block ?_ | refine pw_region (fun _ => false) hmix ?_ | (refine wpG_split rfl rfl (fun hc => ?_) (fun hc => ?_) <;> try simp only [hcL, reduceCtorEq] at hc) | (refine pw_cond _ rfl rfl (fun hc => ?_) (fun hc => ?_) <;> (try simp only [hcL, reduceCtorEq] at hc) <;> try (exfalso; omega)) | simp (maxSteps := 1000000) (disch := omega) only [go_sem, simprocAttr, List.append_eq, hOl, ho, hov] | apply And.intro | omega | decide +kernel
         refine ⟨k + 1, ?_, eL [] _ _ (by refine ⟨?_, ?_⟩ <;> (repeat' first | exact List.forall_mem_nil _ | refine List.forall_mem_cons.2 ⟨(by first | rfl | (simp (disch := omega) only [go_sem, simprocAttr, inL]; first | done | omega | (congr 1; done))), ?_⟩); done), ?_⟩
         ·omega
         ·omega
        ·repeat' first | refine pw_seq ?_ | refine pw_skip ?_ | refine pw_ret ?_ | refine pw_exit ?_ | refine pw_block ?_ | refine pw_region (fun _ => false) hmix ?_ | (refine wpG_split rfl rfl (fun hc => ?_) (fun hc => ?_) <;> try simp only [hcL, reduceCtorEq] at hc) | (refine pw_cond _ rfl rfl (fun hc => ?_) (fun hc => ?_) <;> (try simp only [hcL, reduceCtorEq] at hc) <;> try (exfalso; omega)) | simp (maxSteps := 1000000) (disch := omega) only [go_sem, simprocAttr, List.append_eq, hOl, ho] | apply And.intro | omega | decide +kernel
         all_goals
          refine ⟨k + 1, ?_, eL [] _ _ (by refine ⟨?_, ?_⟩ <;> (repeat' first | exact List.forall_mem_nil _ | refine List.forall_mem_cons.2 ⟨(by first | rfl | (simp (disch := omega) only [go_sem, simprocAttr, inL]; first | done | omega | (congr 1; done))), ?_⟩); done), ?_⟩
          ·omega
          ·omega
     ·have : k = y.length := by omega
      subst this
      repeat' first | refine pw_seq ?_ | refine pw_skip ?_ | refine pw_ret ?_ | refine pw_exit ?_ | refine pw_block ?_ | refine pw_region (fun _ => false) hmix ?_ | (refine rc (h9) rfl ?_ ?_; (· first | rfl | (simp (disch := omega) only [go_sem, simprocAttr, hy]; done))) | (refine wpG_split rfl rfl (fun hc => ?_) (fun hc => ?_) <;> try simp only [hcL, reduceCtorEq] at hc) | (refine pw_cond _ rfl rfl (fun hc => ?_) (fun hc => ?_) <;> (try simp only [hcL, reduceCtorEq] at hc) <;> try (exfalso; omega)) | simp (maxSteps := 1000000) (disch := omega) only [go_sem, simprocAttr, hy] | apply And.intro | omega | decide +kernel
      exact bool_some rfl
end Go.Proofs.Ytldbcbclhpcofaa
