/- Contracts of functions on lists of points. -/
import Derived.Test.YtelghbnlceeecaaQ
namespace Go.Proofs.Ytelghbnlceeecaa
open Go Go.PS Go.Proofs
set_option maxRecDepth 100000
set_option linter.unusedSimpArgs false
set_option linter.unusedVariables false
attribute [local irreducible] wpRun wpG CallsTo CallsM

abbrev ptsD (l : List Pt) : D := .sl (l.map ptD)
def apartAt (l : List Pt) (j : Nat) : Bool := !decide (l[j]? = l[j + 1]?)
def distinctF (l : List Pt) : Bool := allN (apartAt l) (l.length - 1)

theorem distinct_spec (l : List Pt) : CallsTo Try.prog 97 [ptsD l] (.bool (distinctF l)) := by
  refine callsTo_of Try.func97 rfl (by decide +kernel) (Nat.le_of_ble_eq_true rfl) ?_
  intro hat B X w0
  have hl := at_len 0 hat rfl
  rw [List.length_map] at hl
  repeat' first
    | refine pw_seq ?_
    | refine pw_skip ?_
    | refine pw_ret ?_
    | refine pw_exit ?_
    | refine pw_block ?_
    | refine pw_region (fun _ => false) hmix ?_
    | (refine wpG_split rfl rfl (fun hc => ?_) (fun hc => ?_) <;> try simp only [hcL, reduceCtorEq] at hc)
    | (refine pw_cond _ rfl rfl (fun hc => ?_) (fun hc => ?_) <;> (try simp only [hcL, reduceCtorEq] at hc) <;> try (exfalso; omega))
    | simp (maxSteps := 1000000) (disch := omega) only [go_sem, simprocAttr]
    | apply And.intro
    | omega
    | decide +kernel
  · refine pw_loopI (κ := Nat) (fun (k : Nat) => k ≤ l.length - 1 ∧ allN (apartAt l) k = true) (fun (k : Nat) => [(0, .d (ptsD l)), (3, .int (k + 1))]) (fun (k : Nat) => []) (fun (k : Nat) => l.length - k) 0 ?_ ?_ ?_
    · exact ⟨Nat.zero_le _, rfl⟩
    · exact eL [] _ _ (by refine ⟨?_, ?_⟩ <;> (repeat' first | exact List.forall_mem_nil _ | refine List.forall_mem_cons.2 ⟨(by first | rfl | (simp (disch := omega) only [go_sem, simprocAttr, inL]; first | done | omega | (congr 1; done))), ?_⟩); done)
    · rintro k ⟨hk, hinv⟩
      rcases Nat.lt_or_ge (k + 1) l.length with hlt | hge
      · obtain ⟨p, hp⟩ := get_some (show k < l.length by omega)
        obtain ⟨q, hq⟩ := get_some hlt
        have e1 : ((k : Int) + 1 - 1).toNat = k := by omega
        have e2 : ((k : Int) + 1).toNat = k + 1 := by omega
        repeat' first
          | refine pw_seq ?_
          | refine pw_skip ?_
          | refine pw_ret ?_
          | refine pw_exit ?_
          | refine pw_block ?_
          | refine pw_region (fun _ => false) hmix ?_
          | (refine wpG_split rfl rfl (fun hc => ?_) (fun hc => ?_) <;> try simp only [hcL, reduceCtorEq] at hc)
          | (refine pw_cond _ rfl rfl (fun hc => ?_) (fun hc => ?_) <;> (try simp only [hcL, reduceCtorEq] at hc) <;> try (exfalso; omega))
          | simp (maxSteps := 1000000) (disch := omega) only [go_sem, simprocAttr, e1, e2, hp, hq, ptEq]
          | apply And.intro
          | omega
          | decide +kernel
        · refine bool_some ?_
          exact (allN_false (show k < l.length - 1 by omega) (by simp only [apartAt, hp, hq, hc, decide_true, Bool.not_true])).symm
        · refine ⟨k + 1, ?_, eL [] _ _ (by refine ⟨?_, ?_⟩ <;> (repeat' first | exact List.forall_mem_nil _ | refine List.forall_mem_cons.2 ⟨(by first | rfl | (simp (disch := omega) only [go_sem, simprocAttr, inL]; first | done | omega | (congr 1; done))), ?_⟩); done), ?_⟩
          · exact ⟨by omega, allN_succ hinv (by simp [apartAt, hp, hq, hc])⟩
          · omega
      · repeat' first
          | refine pw_seq ?_
          | refine pw_skip ?_
          | refine pw_ret ?_
          | refine pw_exit ?_
          | refine pw_block ?_
          | refine pw_region (fun _ => false) hmix ?_
          | (refine wpG_split rfl rfl (fun hc => ?_) (fun hc => ?_) <;> try simp only [hcL, reduceCtorEq] at hc)
          | (refine pw_cond _ rfl rfl (fun hc => ?_) (fun hc => ?_) <;> (try simp only [hcL, reduceCtorEq] at hc) <;> try (exfalso; omega))
          | simp (maxSteps := 1000000) (disch := omega) only [go_sem, simprocAttr]
          | apply And.intro
          | omega
          | decide +kernel
        refine bool_some ?_
        have : k = l.length - 1 := by omega
        rw [distinctF, ← this, hinv]

/-- An index of a point. -/
theorem indexFunc_spec (q : Pt → Bool) (g : FuncId) (hg : ∀ p, CallsTo Try.prog g [ptD p] (.bool (q p))) (l : List Pt) :
    CallsTo Try.prog 116 [ptsD l, .fn g []] (.int (idxI (l.findIdx? q))) := by
  refine callsTo_of Try.func116 rfl (by decide +kernel) (Nat.le_of_ble_eq_true rfl) ?_
  intro hat B X w0
  have hl := at_len 0 hat rfl
  rw [List.length_map] at hl
  repeat' first
    | refine pw_seq ?_
    | refine pw_skip ?_
    | refine pw_ret ?_
    | refine pw_exit ?_
    | refine pw_block ?_
    | refine pw_region (fun _ => false) hmix ?_
    | (refine wpG_split rfl rfl (fun hc => ?_) (fun hc => ?_) <;> try simp only [hcL, reduceCtorEq] at hc)
    | (refine pw_cond _ rfl rfl (fun hc => ?_) (fun hc => ?_) <;> (try simp only [hcL, reduceCtorEq] at hc) <;> try (exfalso; omega))
    | simp (maxSteps := 1000000) (disch := omega) only [go_sem, simprocAttr]
    | apply And.intro
    | omega
    | decide +kernel
  refine pw_loopI (κ := Nat) (fun (k : Nat) => k ≤ l.length ∧ ∀ (j : Nat) y, j < k → l[j]? = some y → q y = false) (fun (k : Nat) => [(0, .d (ptsD l)), (1, .d (.fn g [])), (7, .int l.length), (8, .int k)]) (fun (k : Nat) => []) (fun (k : Nat) => l.length - k) 0 ?_ ?_ ?_
  · exact ⟨Nat.zero_le _, fun j y h => by omega⟩
  · exact eL [] _ _ (by refine ⟨?_, ?_⟩ <;> (repeat' first | exact List.forall_mem_nil _ | refine List.forall_mem_cons.2 ⟨(by first | rfl | (simp (disch := omega) only [go_sem, simprocAttr, inL]; first | done | omega | (congr 1; done))), ?_⟩); done)
  · rintro k ⟨hk, hinv⟩
    rcases Nat.lt_or_ge k l.length with hlt | hge
    · obtain ⟨p, hp⟩ := get_some hlt
      repeat' first
        | refine pw_seq ?_
        | refine pw_skip ?_
        | refine pw_ret ?_
        | refine pw_exit ?_
        | refine pw_block ?_
        | refine pw_region (fun _ => false) hmix ?_
        | (refine rc (hg p) rfl ?_ ?_; (· first | rfl | (simp (disch := omega) only [go_sem, simprocAttr, hp]; done)))
        | (refine wpG_split rfl rfl (fun hc => ?_) (fun hc => ?_) <;> try simp only [hcL, reduceCtorEq] at hc)
        | (refine pw_cond _ rfl rfl (fun hc => ?_) (fun hc => ?_) <;> (try simp only [hcL, reduceCtorEq] at hc) <;> try (exfalso; omega))
        | simp (maxSteps := 1000000) (disch := omega) only [go_sem, simprocAttr, hp]
        | apply And.intro
        | omega
        | decide +kernel
      · refine int_some ?_
        rw [findIdx_at hp hc hinv]; rfl
      · refine ⟨k + 1, ?_, eL [] _ _ (by refine ⟨?_, ?_⟩ <;> (repeat' first | exact List.forall_mem_nil _ | refine List.forall_mem_cons.2 ⟨(by first | rfl | (simp (disch := omega) only [go_sem, simprocAttr, inL]; first | done | omega | (congr 1; done))), ?_⟩); done), ?_⟩
        · exact ⟨by omega, upto_succ hinv hp hc⟩
        · omega
    · repeat' first
        | refine pw_seq ?_
        | refine pw_skip ?_
        | refine pw_ret ?_
        | refine pw_exit ?_
        | refine pw_block ?_
        | refine pw_region (fun _ => false) hmix ?_
        | (refine wpG_split rfl rfl (fun hc => ?_) (fun hc => ?_) <;> try simp only [hcL, reduceCtorEq] at hc)
        | (refine pw_cond _ rfl rfl (fun hc => ?_) (fun hc => ?_) <;> (try simp only [hcL, reduceCtorEq] at hc) <;> try (exfalso; omega))
        | simp (maxSteps := 1000000) (disch := omega) only [go_sem, simprocAttr]
        | apply And.intro
        | omega
        | decide +kernel
      refine int_some ?_
      rw [findIdx_no (fun j y hy => hinv j y (by have := (List.getElem?_eq_some_iff.1 hy).1; omega) hy)]; rfl
theorem containsFunc_spec (q : Pt → Bool) (g : FuncId) (hg : ∀ p, CallsTo Try.prog g [ptD p] (.bool (q p))) (l : List Pt) :
    CallsTo Try.prog 99 [ptsD l, .fn g []] (.bool (l.any q)) := by
  refine callsTo_of Try.func99 rfl (by decide +kernel) (Nat.le_of_ble_eq_true rfl) ?_
  intro hat B X w0
  have hl := at_len 0 hat rfl
  rw [List.length_map] at hl
  repeat' first
    | refine pw_seq ?_
    | refine pw_skip ?_
    | refine pw_ret ?_
    | refine pw_exit ?_
    | refine pw_block ?_
    | refine pw_region (fun _ => false) hmix ?_
    | (refine rc (indexFunc_spec q g hg l) rfl ?_ ?_; (· first | rfl | (simp (disch := omega) only [go_sem, simprocAttr]; done)))
    | (refine wpG_split rfl rfl (fun hc => ?_) (fun hc => ?_) <;> try simp only [hcL, reduceCtorEq] at hc)
    | (refine pw_cond _ rfl rfl (fun hc => ?_) (fun hc => ?_) <;> (try simp only [hcL, reduceCtorEq] at hc) <;> try (exfalso; omega))
    | simp (maxSteps := 1000000) (disch := omega) only [go_sem, simprocAttr]
    | apply And.intro
    | omega
    | decide +kernel
  exact bool_some (idx_any q l)

def pointsF (l : List Pt) : Bool := decide (1 ≤ l.length) && decide (l.length ≤ 512) && !l.any (fun p => !ptOk p)
theorem points_spec (l : List Pt) : CallsTo Try.prog 98 [ptsD l] (.bool (pointsF l)) := by
  refine callsTo_of Try.func98 rfl (by decide +kernel) (Nat.le_of_ble_eq_true rfl) ?_
  intro hat B X w0
  have hl := at_len 0 hat rfl
  rw [List.length_map] at hl
  repeat' first
    | refine pw_seq ?_
    | refine pw_skip ?_
    | refine pw_ret ?_
    | refine pw_exit ?_
    | refine pw_block ?_
    | refine pw_region (fun _ => false) hmix ?_
    | (refine rc (containsFunc_spec _ _ points1_spec l) rfl ?_ ?_; (· first | rfl | (simp (disch := omega) only [go_sem, simprocAttr]; done)))
    | (refine wpG_split rfl rfl (fun hc => ?_) (fun hc => ?_) <;> try simp only [hcL, reduceCtorEq] at hc)
    | (refine pw_cond _ rfl rfl (fun hc => ?_) (fun hc => ?_) <;> (try simp only [hcL, reduceCtorEq] at hc) <;> try (exfalso; omega))
    | simp (maxSteps := 1000000) (disch := omega) only [go_sem, simprocAttr]
    | apply And.intro
    | omega
    | decide +kernel
  all_goals
    refine bool_some ?_
    simp [pointsF]
    try omega
theorem pValid_spec (l : List Pt) : CallsTo Try.prog 62 [ptsD l] (.bool (distinctF l && pointsF l)) := by
  refine callsTo_of Try.func62 rfl (by decide +kernel) (Nat.le_of_ble_eq_true rfl) ?_
  intro hat B X w0
  have hl := at_len 0 hat rfl
  rw [List.length_map] at hl
  repeat' first
    | refine pw_seq ?_
    | refine pw_skip ?_
    | refine pw_ret ?_
    | refine pw_exit ?_
    | refine pw_block ?_
    | refine pw_region (fun _ => false) hmix ?_
    | (refine rc (points_spec l) rfl ?_ ?_; (· first | rfl | (simp (disch := omega) only [go_sem, simprocAttr]; done)))
    | (refine rc (distinct_spec l) rfl ?_ ?_; (· first | rfl | (simp (disch := omega) only [go_sem, simprocAttr]; done)))
    | (refine wpG_split rfl rfl (fun hc => ?_) (fun hc => ?_) <;> try simp only [hcL, reduceCtorEq] at hc)
    | (refine pw_cond _ rfl rfl (fun hc => ?_) (fun hc => ?_) <;> (try simp only [hcL, reduceCtorEq] at hc) <;> try (exfalso; omega))
    | simp (maxSteps := 1000000) (disch := omega) only [go_sem, simprocAttr]
    | apply And.intro
    | omega
    | decide +kernel
  all_goals
    refine bool_some ?_
    simp [*]
def curveOk (l : List Pt) : Bool := decide (l.length % 3 = 1) && decide (l.length ≤ 1534) && !l.any (fun p => !ptOk p)
theorem tmod3 (n : Nat) : (n : Int).tmod 3 = ((n % 3 : Nat) : Int) := rfl
theorem curve_spec (l : List Pt) : CallsTo Try.prog 64 [ptsD l] (.bool (curveOk l)) := by
  refine callsTo_of Try.func64 rfl (by decide +kernel) (Nat.le_of_ble_eq_true rfl) ?_
  intro hat B X w0
  have hl := at_len 0 hat rfl
  rw [List.length_map] at hl
  repeat' first
    | refine pw_seq ?_
    | refine pw_skip ?_
    | refine pw_ret ?_
    | refine pw_exit ?_
    | refine pw_block ?_
    | refine pw_region (fun _ => false) hmix ?_
    | (refine rc (containsFunc_spec _ _ curve1_spec l) rfl ?_ ?_; (· first | rfl | (simp (disch := omega) only [go_sem, simprocAttr, tmod3]; done)))
    | (refine wpG_split rfl rfl (fun hc => ?_) (fun hc => ?_) <;> try simp only [hcL, reduceCtorEq] at hc)
    | (refine pw_cond _ rfl rfl (fun hc => ?_) (fun hc => ?_) <;> (try simp only [hcL, reduceCtorEq] at hc) <;> try (exfalso; omega))
    | simp (maxSteps := 1000000) (disch := omega) only [go_sem, simprocAttr, tmod3]
    | apply And.intro
    | omega
    | decide +kernel
  all_goals
    refine bool_some ?_
    simp only [curveOk]
    generalize l.any _ = c
    cases c <;> simp <;> omega
theorem any_no {α : Type} {q : α → Bool} {l : List α} (h : ∀ (j : Nat) y, j < l.length → l[j]? = some y → q y = false) : l.any q = false := by
  rw [Bool.eq_false_iff]
  intro hq
  obtain ⟨x, hx, hx2⟩ := List.any_eq_true.1 hq
  obtain ⟨k, hk⟩ := List.getElem?_of_mem hx
  rw [h k x (List.getElem?_eq_some_iff.1 hk).1 hk] at hx2; cases hx2
theorem any_at {α : Type} {q : α → Bool} {l : List α} {k : Nat} {x : α} (h : l[k]? = some x) (hq : q x = true) : l.any q = true := List.any_eq_true.2 ⟨x, List.mem_of_getElem? h, hq⟩
def pathOk (l : List Pt) : Bool := distinctF l && pointsF l
end Go.Proofs.Ytelghbnlceeecaa
namespace Go.Proofs.Ytelghbnlceeecaa
open Go Go.PS Go.Proofs
set_option maxRecDepth 100000
set_option linter.unusedSimpArgs false
set_option linter.unusedVariables false
attribute [local irreducible] wpRun wpG CallsTo CallsM

def pieceF : Nat → Pt → Pt → Pt → Pt → List Pt
  | 0, _, _, _, d => [d]
  | n + 1, a, b, c, d => pieceF n a (mid a b) (mid (mid a b) (mid b c)) (mid (mid (mid a b) (mid b c)) (mid (mid b c) (mid c d))) ++
      pieceF n (mid (mid (mid a b) (mid b c)) (mid (mid b c) (mid c d))) (mid (mid b c) (mid c d)) (mid c d) d
theorem pieceF_len (n : Nat) : ∀ a b c d, (pieceF n a b c d).length = 2 ^ n := by
  induction n with
  | zero => intro a b c d; rfl
  | succ n ih => intro a b c d; simp only [pieceF, List.length_append, ih]; omega
theorem ptD_cells (l : List Pt) : ∀ d, d ∈ l.map ptD → d.cells.length = 2 := cells_map ptD 2 (fun _ => rfl) l
theorem two_le (n : Nat) (h : n ≤ 10) : 2 ^ n ≤ 1024 := by
  have : 2 ^ n ≤ 2 ^ 10 := Nat.pow_le_pow_right (by omega) h
  omega
attribute [local irreducible] mid inR pieceF
set_option maxHeartbeats 1000000 in
theorem halve_spec (n : Nat) : ∀ (k : Int) (l : List Pt) (a b c d : Pt), k = n → n ≤ 10 → l.length + 2 ^ n ≤ 1000000000 → inR a → inR b → inR c → inR d →
    CallsM Try.prog 65 [.ref 1000 2 0 l.length l.length, .d (ptD a), .d (ptD b), .d (ptD c), .d (ptD d), .int k] [(1000, .row 2 (l.map ptD)), (2000, .dead)]
      (.ref 2000 2 0 (l.length + (pieceF n a b c d).length) (l.length + (pieceF n a b c d).length)) [(1000, .gone), (2000, .row 2 (l.map ptD ++ (pieceF n a b c d).map ptD))] := by
  induction n with
  | zero =>
    intro k l a b c d hk hn hl pa pb pc pd
    have e : pieceF 0 a b c d = [d] := by unfold pieceF; rfl
    subst hk
    rw [e]
    refine callsM_of Try.func65 rfl (by decide +kernel) (Nat.le_of_ble_eq_true rfl) rfl (nodup_of rfl) rfl rfl rfl ?_
    intro B X w0
    repeat' first
      | refine pw_seq ?_
      | refine pw_skip ?_
      | refine pw_exit ?_
      | refine pw_block ?_
      | refine pw_region (fun _ => false) hmix ?_
      | (refine wpG_split rfl rfl (fun hc => ?_) (fun hc => ?_) <;> try simp only [hcL, reduceCtorEq] at hc)
      | (refine pw_cond _ rfl rfl (fun hc => ?_) (fun hc => ?_) <;> (try simp only [hcL, reduceCtorEq] at hc) <;> try (exfalso; omega))
      | simp (maxSteps := 1000000) (disch := omega) only [go_sem, simprocAttr, roomy, take_map_len, Nat.pow_zero]
      | apply And.intro
      | omega
      | decide +kernel
    refine eR [(2000, 24)] [(12, .ref 2000 2 0 _ _)] [(1000, .gone), (2000, .row 2 _)] (by refine ⟨?_, ?_⟩ <;> (repeat' first | exact List.forall_mem_nil _ | refine List.forall_mem_cons.2 ⟨(by first | rfl | (simp (disch := omega) only [go_sem, simprocAttr, inL]; first | done | omega | (congr 1; done))), ?_⟩); done) ?_
    refine pw_ret ?_
    exact ⟨rfl, List.forall_mem_cons.2 ⟨rfl, List.forall_mem_cons.2 ⟨rfl, List.forall_mem_nil _⟩⟩⟩
  | succ n ih =>
    intro k l a b c d hk hn hl pa pb pc pd
    have hk0 : k ≠ 0 := by omega
    have e : pieceF (n + 1) a b c d = pieceF n a (mid a b) (mid (mid a b) (mid b c)) (mid (mid (mid a b) (mid b c)) (mid (mid b c) (mid c d))) ++
      pieceF n (mid (mid (mid a b) (mid b c)) (mid (mid b c) (mid c d))) (mid (mid b c) (mid c d)) (mid c d) d := by
      conv => lhs; unfold pieceF
    rw [e, List.length_append, List.map_append]
    have h1 := mid_in pa pb
    have h2 := mid_in pb pc
    have h3 := mid_in pc pd
    have h4 := mid_in h1 h2
    have h5 := mid_in h2 h3
    have h6 := mid_in h4 h5
    have hp : 2 ^ (n + 1) = 2 ^ n + 2 ^ n := by rw [Nat.pow_succ]; omega
    have l1 := pieceF_len n a (mid a b) (mid (mid a b) (mid b c)) (mid (mid (mid a b) (mid b c)) (mid (mid b c) (mid c d)))
    have ih1 := ih (k - 1) l _ _ _ _ (by omega) (by omega) (by omega) pa h1 h4 h6
    have ih2 := ih (k - 1) (l ++ pieceF n a (mid a b) (mid (mid a b) (mid b c)) (mid (mid (mid a b) (mid b c)) (mid (mid b c) (mid c d)))) _ _ _ _ (by omega) (by omega) (by rw [List.length_append]; omega) h6 h5 h3 pd
    rw [List.length_append, List.map_append, List.append_assoc, Nat.add_assoc] at ih2
    refine callsM_of Try.func65 rfl (by decide +kernel) (Nat.le_of_ble_eq_true rfl) rfl (nodup_of rfl) rfl rfl rfl ?_
    intro B X w0
    repeat' first
      | refine pw_seq ?_
      | refine pw_skip ?_
      | refine pw_exit ?_
      | refine pw_block ?_
      | refine pw_region (fun _ => false) hmix ?_
      | (refine rc (middle_spec _ _ pa pb) rfl ?_ ?_; (· first | rfl | (simp (disch := omega) only [go_sem, simprocAttr, roomy, take_map_len]; done)))
      | (refine rc (middle_spec _ _ pb pc) rfl ?_ ?_; (· first | rfl | (simp (disch := omega) only [go_sem, simprocAttr, roomy, take_map_len]; done)))
      | (refine rc (middle_spec _ _ pc pd) rfl ?_ ?_; (· first | rfl | (simp (disch := omega) only [go_sem, simprocAttr, roomy, take_map_len]; done)))
      | (refine rc (middle_spec _ _ h1 h2) rfl ?_ ?_; (· first | rfl | (simp (disch := omega) only [go_sem, simprocAttr, roomy, take_map_len]; done)))
      | (refine rc (middle_spec _ _ h2 h3) rfl ?_ ?_; (· first | rfl | (simp (disch := omega) only [go_sem, simprocAttr, roomy, take_map_len]; done)))
      | (refine rc (middle_spec _ _ h4 h5) rfl ?_ ?_; (· first | rfl | (simp (disch := omega) only [go_sem, simprocAttr, roomy, take_map_len]; done)))
      | refine rcM [(2000, 50)] (ih1) rfl ?_
      | refine rcM [(1000, 50), (2000, 57)] (ih2) rfl ?_
      | (refine wpG_split rfl rfl (fun hc => ?_) (fun hc => ?_) <;> try simp only [hcL, reduceCtorEq] at hc)
      | (refine pw_cond _ rfl rfl (fun hc => ?_) (fun hc => ?_) <;> (try simp only [hcL, reduceCtorEq] at hc) <;> try (exfalso; omega))
      | simp (maxSteps := 1000000) (disch := omega) only [go_sem, simprocAttr, roomy, take_map_len]
      | apply And.intro
      | omega
      | decide +kernel
    refine eR [(2000, 57)] [(12, .ref 2000 2 0 _ _)] [(1000, .gone), (2000, .row 2 _)] (by refine ⟨?_, ?_⟩ <;> (repeat' first | exact List.forall_mem_nil _ | refine List.forall_mem_cons.2 ⟨(by first | rfl | (simp (disch := omega) only [go_sem, simprocAttr, inL]; first | done | omega | (congr 1; done))), ?_⟩); done) ?_
    refine pw_ret ?_
    exact ⟨rfl, List.forall_mem_cons.2 ⟨rfl, List.forall_mem_cons.2 ⟨rfl, List.forall_mem_nil _⟩⟩⟩
end Go.Proofs.Ytelghbnlceeecaa
namespace Go.Proofs.Ytelghbnlceeecaa
open Go Go.PS Go.Proofs
set_option maxRecDepth 100000
set_option linter.unusedSimpArgs false
set_option linter.unusedVariables false
attribute [local irreducible] wpRun wpG CallsTo CallsM

def curveStep (a b : Pt) : List Pt := [(a.1, (2 * a.2 + b.2) / 3), (b.1, (a.2 + 2 * b.2) / 3), b]
def stepAt (l : List Pt) (j : Nat) : List Pt := match l[j]?, l[j + 1]? with
  | some a, some b => curveStep a b
  | _, _ => []
def outC (l : List Pt) (k : Nat) : List Pt := l.take 1 ++ catN (stepAt l) k
def curveF (l : List Pt) : List Pt := if pathOk l then outC l (l.length - 1) else []
theorem pathOk_pos {l : List Pt} (h : pathOk l = true) : 1 ≤ l.length ∧ l.length ≤ 512 := by
  simp only [pathOk, pointsF, Bool.and_eq_true, decide_eq_true_eq] at h
  exact ⟨h.2.1.1, h.2.1.2⟩
theorem pathOk_in {l : List Pt} (h : pathOk l = true) {k : Nat} {p : Pt} (hk : l[k]? = some p) : -268435456 ≤ p.1 ∧ p.1 ≤ 268435456 ∧ -268435456 ≤ p.2 ∧ p.2 ≤ 268435456 := by
  simp only [pathOk, pointsF, Bool.and_eq_true, Bool.not_eq_true', List.any_eq_false] at h
  have := h.2.2 p (List.mem_of_getElem? hk)
  simpa [ptOk] using this
theorem outC_len {l : List Pt} (hl : 1 ≤ l.length) : ∀ k, k ≤ l.length - 1 → (outC l k).length = 1 + 3 * k := by
  intro k
  induction k with
  | zero => intro _; simp [outC, catN]; omega
  | succ k ih =>
    intro hk
    obtain ⟨p, hp⟩ := get_some (show k < l.length by omega)
    obtain ⟨q, hq⟩ := get_some (show k + 1 < l.length by omega)
    have := ih (by omega)
    simp only [outC, catN, List.length_append] at this ⊢
    simp [stepAt, hp, hq, curveStep]; simp at this; omega
theorem outC_succ {l : List Pt} {k : Nat} {p q : Pt} (hp : l[k]? = some p) (hq : l[k + 1]? = some q) : outC l (k + 1) = outC l k ++ [(p.1, (2 * p.2 + q.2) / 3), (q.1, (p.2 + 2 * q.2) / 3), q] := by
  simp only [outC, catN, List.append_assoc, stepAt, hp, hq, curveStep]
theorem outC_zero {l : List Pt} {p : Pt} (hp : l[0]? = some p) : outC l 0 = [p] := by
  cases l with
  | nil => simp at hp
  | cons a l => simp at hp; subst hp; rfl
set_option maxHeartbeats 1000000 in
theorem Curve_spec (l : List Pt) : CallsTo Try.prog 29 [ptsD l] (ptsD (curveF l)) := by
  rcases h : pathOk l with _ | _
  · have hv : CallsTo Try.prog 62 [ptsD l] (.bool false) := h ▸ pValid_spec l
    refine callsTo_of Try.func29 rfl (by decide +kernel) (Nat.le_of_ble_eq_true rfl) ?_
    intro hat B X w0
    have hl := at_len 0 hat rfl
    rw [List.length_map] at hl
    repeat' first
      | refine pw_seq ?_
      | refine pw_skip ?_
      | refine pw_ret ?_
      | refine pw_exit ?_
      | refine pw_block ?_
      | refine pw_region (fun _ => false) hmix ?_
      | (refine rc (hv) rfl ?_ ?_; (· first | rfl | (simp (disch := omega) only [go_sem, simprocAttr]; done)))
      | (refine wpG_split rfl rfl (fun hc => ?_) (fun hc => ?_) <;> try simp only [hcL, reduceCtorEq] at hc)
      | (refine pw_cond _ rfl rfl (fun hc => ?_) (fun hc => ?_) <;> (try simp only [hcL, reduceCtorEq] at hc) <;> try (exfalso; omega))
      | simp (maxSteps := 1000000) (disch := omega) only [go_sem, simprocAttr]
      | apply And.intro
      | omega
      | decide +kernel
    refine sl_some ?_
    simp [curveF, h]
  · have hv : CallsTo Try.prog 62 [ptsD l] (.bool true) := h ▸ pValid_spec l
    obtain ⟨h1, h2⟩ := pathOk_pos h
    obtain ⟨p0, hp0⟩ := get_some (show 0 < l.length by omega)
    refine callsTo_of Try.func29 rfl (by decide +kernel) (Nat.le_of_ble_eq_true rfl) ?_
    intro hat B X w0
    have hl := at_len 0 hat rfl
    rw [List.length_map] at hl
    repeat' first
      | refine pw_seq ?_
      | refine pw_skip ?_
      | refine pw_ret ?_
      | refine pw_exit ?_
      | refine pw_block ?_
      | refine pw_region (Nat.beq 13) hmix ?_
      | (refine rc (hv) rfl ?_ ?_; (· first | rfl | (simp (disch := omega) only [go_sem, simprocAttr, hp0, take_map_len, List.length_drop]; done)))
      | (refine wpG_split rfl rfl (fun hc => ?_) (fun hc => ?_) <;> try simp only [hcL, reduceCtorEq] at hc)
      | (refine pw_cond _ rfl rfl (fun hc => ?_) (fun hc => ?_) <;> (try simp only [hcL, reduceCtorEq] at hc) <;> try (exfalso; omega))
      | simp (maxSteps := 1000000) (disch := omega) only [go_sem, simprocAttr, hp0, take_map_len, List.length_drop]
      | exact cells_map ptD 2 (fun _ => rfl) l
      | apply And.intro
      | omega
      | decide +kernel
    refine pw_loopI (κ := Nat) (fun (k : Nat) => k ≤ l.length - 1) (fun (k : Nat) => [(0, .d (ptsD l)), (3, .ref 13 2 0 (outC l k).length (outC l k).length), (15, .d (.sl ((l.map ptD).drop 1))), (16, .int ((l.length - 1 : Nat) : Int)), (17, .int k)]) (fun (k : Nat) => [(13, .row 2 ((outC l k).map ptD))]) (fun (k : Nat) => l.length - k) 0 ?_ ?_ ?_
    · exact Nat.zero_le _
    · exact eL [] _ _ (by refine ⟨?_, ?_⟩ <;> (repeat' first | exact List.forall_mem_nil _ | refine List.forall_mem_cons.2 ⟨(by first | rfl | (simp (disch := omega) only [go_sem, simprocAttr, inL, outC_zero hp0, List.length_drop, List.length_map]; first | done | omega | (congr 1; done))), ?_⟩); done)
    · intro k hk
      have hlen := outC_len h1 k hk
      rcases Nat.lt_or_ge (k + 1) l.length with hlt | hge
      · obtain ⟨p, hp⟩ := get_some (show k < l.length by omega)
        obtain ⟨q, hq⟩ := get_some hlt
        have e3 : 1 + k = k + 1 := by omega
        have hpi := pathOk_in h hp
        have hqi := pathOk_in h hq
        have ho := outC_succ hp hq
        have t1 := third_spec (2 * p.2 + q.2) (by omega) (by omega)
        have t2 := third_spec (p.2 + 2 * q.2) (by omega) (by omega)
        repeat' first
          | refine pw_seq ?_
          | refine pw_skip ?_
          | refine pw_ret ?_
          | refine pw_exit ?_
          | refine pw_block ?_
          | refine pw_region (fun _ => false) hmix ?_
          | (refine rc (t1) rfl ?_ ?_; (· first | rfl | (simp (disch := omega) only [go_sem, simprocAttr, e3, hp, hq, roomy, take_map_len, List.length_drop, List.getElem?_drop]; done)))
          | (refine rc (t2) rfl ?_ ?_; (· first | rfl | (simp (disch := omega) only [go_sem, simprocAttr, e3, hp, hq, roomy, take_map_len, List.length_drop, List.getElem?_drop]; done)))
          | (refine wpG_split rfl rfl (fun hc => ?_) (fun hc => ?_) <;> try simp only [hcL, reduceCtorEq] at hc)
          | (refine pw_cond _ rfl rfl (fun hc => ?_) (fun hc => ?_) <;> (try simp only [hcL, reduceCtorEq] at hc) <;> try (exfalso; omega))
          | simp (maxSteps := 1000000) (disch := omega) only [go_sem, simprocAttr, e3, hp, hq, roomy, take_map_len, List.length_drop, List.getElem?_drop]
          | apply And.intro
          | omega
          | decide +kernel
        refine ⟨k + 1, ?_, eL [(13, 49)] _ _ (by refine ⟨?_, ?_⟩ <;> (repeat' first | exact List.forall_mem_nil _ | refine List.forall_mem_cons.2 ⟨(by first | rfl | (simp (disch := omega) only [go_sem, simprocAttr, inL, ho, List.length_append, List.map_append]; first | done | omega | (congr 1; done))), ?_⟩); done), ?_⟩
        · omega
        · omega
      · repeat' first
          | refine pw_seq ?_
          | refine pw_skip ?_
          | refine pw_ret ?_
          | refine pw_exit ?_
          | refine pw_block ?_
          | refine pw_region (fun _ => false) hmix ?_
          | (refine wpG_split rfl rfl (fun hc => ?_) (fun hc => ?_) <;> try simp only [hcL, reduceCtorEq] at hc)
          | (refine pw_cond _ rfl rfl (fun hc => ?_) (fun hc => ?_) <;> (try simp only [hcL, reduceCtorEq] at hc) <;> try (exfalso; omega))
          | simp (maxSteps := 1000000) (disch := omega) only [go_sem, simprocAttr]
          | apply And.intro
          | omega
          | decide +kernel
        have : k = l.length - 1 := by omega
        subst this
        exact ret_ref (o := 13) rfl rfl (by simp) (by simp [curveF, h, take_map_len])
end Go.Proofs.Ytelghbnlceeecaa
namespace Go.Proofs.Ytelghbnlceeecaa
open Go Go.PS Go.Proofs
set_option maxRecDepth 100000
set_option linter.unusedSimpArgs false
set_option linter.unusedVariables false
attribute [local irreducible] wpRun wpG CallsTo CallsM

def pieceAt (c : List Pt) (n k : Nat) : List Pt := match c[3 * k]?, c[3 * k + 1]?, c[3 * k + 2]?, c[3 * k + 3]? with
  | some p, some q, some r, some s => pieceF n p q r s
  | _, _, _, _ => []
def outF (c : List Pt) (n k : Nat) : List Pt := c.take 1 ++ catN (pieceAt c n) k
def flatF (c : List Pt) (depth : Int) : List Pt := if curveOk c && decide (0 ≤ depth) && decide (depth ≤ 4) then outF c depth.toNat (c.length / 3) else []
theorem curveOk_len {c : List Pt} (h : curveOk c = true) : c.length = 3 * (c.length / 3) + 1 ∧ c.length / 3 ≤ 511 := by
  simp only [curveOk, Bool.and_eq_true, decide_eq_true_eq] at h
  omega
theorem curveOk_in {c : List Pt} (h : curveOk c = true) {k : Nat} {p : Pt} (hk : c[k]? = some p) : inR p := by
  simp only [curveOk, Bool.and_eq_true, Bool.not_eq_true', List.any_eq_false] at h
  have := h.2 p (List.mem_of_getElem? hk)
  simpa [ptOk, inR] using this
theorem outF_zero {c : List Pt} {n : Nat} {p : Pt} (hp : c[0]? = some p) : outF c n 0 = [p] := by
  cases c with
  | nil => simp at hp
  | cons a c => simp at hp; subst hp; rfl
theorem outF_succ {c : List Pt} {n k : Nat} {p q r s : Pt} (h1 : c[3 * k]? = some p) (h2 : c[3 * k + 1]? = some q) (h3 : c[3 * k + 2]? = some r) (h4 : c[3 * k + 3]? = some s) :
    outF c n (k + 1) = outF c n k ++ pieceF n p q r s := by
  simp only [outF, catN, List.append_assoc, pieceAt, h1, h2, h3, h4]
theorem outF_len {c : List Pt} (n : Nat) (hc : curveOk c = true) : ∀ k, k ≤ c.length / 3 → (outF c n k).length = 1 + k * 2 ^ n := by
  obtain ⟨h1, h2⟩ := curveOk_len hc
  intro k
  induction k with
  | zero => intro _; simp [outF, catN]; omega
  | succ k ih =>
    intro hk
    obtain ⟨p, hp⟩ := get_some (show 3 * k < c.length by omega)
    obtain ⟨q, hq⟩ := get_some (show 3 * k + 1 < c.length by omega)
    obtain ⟨r, hr⟩ := get_some (show 3 * k + 2 < c.length by omega)
    obtain ⟨s, hs⟩ := get_some (show 3 * k + 3 < c.length by omega)
    rw [outF_succ hp hq hr hs, List.length_append, ih (by omega), pieceF_len, Nat.add_mul]; omega
theorem pow_le_16 {n : Nat} (h : n ≤ 4) : 2 ^ n ≤ 16 := by
  have : 2 ^ n ≤ 2 ^ 4 := Nat.pow_le_pow_right (by omega) h
  omega
attribute [local irreducible] mid inR pieceF
set_option maxHeartbeats 1000000 in
theorem Flatten_spec (c : List Pt) (depth : Int) : CallsTo Try.prog 30 [ptsD c, .int depth] (ptsD (flatF c depth)) := by
  rcases h : curveOk c with _ | _
  · have hv : CallsTo Try.prog 64 [ptsD c] (.bool false) := h ▸ curve_spec c
    refine callsTo_of Try.func30 rfl (by decide +kernel) (Nat.le_of_ble_eq_true rfl) ?_
    intro hat B X w0
    have hl := at_len 0 hat rfl
    rw [List.length_map] at hl
    repeat' first
      | refine pw_seq ?_
      | refine pw_skip ?_
      | refine pw_ret ?_
      | refine pw_exit ?_
      | refine pw_block ?_
      | refine pw_region (fun _ => false) hmix ?_
      | (refine rc (hv) rfl ?_ ?_; (· first | rfl | (simp (disch := omega) only [go_sem, simprocAttr]; done)))
      | (refine wpG_split rfl rfl (fun hc => ?_) (fun hc => ?_) <;> try simp only [hcL, reduceCtorEq] at hc)
      | (refine pw_cond _ rfl rfl (fun hc => ?_) (fun hc => ?_) <;> (try simp only [hcL, reduceCtorEq] at hc) <;> try (exfalso; omega))
      | simp (maxSteps := 1000000) (disch := omega) only [go_sem, simprocAttr]
      | apply And.intro
      | omega
      | decide +kernel
    refine sl_some ?_
    simp [flatF, h]
  · have hv : CallsTo Try.prog 64 [ptsD c] (.bool true) := h ▸ curve_spec c
    obtain ⟨h1, h2⟩ := curveOk_len h
    obtain ⟨p0, hp0⟩ := get_some (show 0 < c.length by omega)
    by_cases hd : 0 ≤ depth ∧ depth ≤ 4
    · obtain ⟨n, rfl⟩ : ∃ n : Nat, depth = n := ⟨depth.toNat, by omega⟩
      have hpow := pow_le_16 (show n ≤ 4 by omega)
      refine callsTo_of Try.func30 rfl (by decide +kernel) (Nat.le_of_ble_eq_true rfl) ?_
      intro hat B X w0
      have hl := at_len 0 hat rfl
      rw [List.length_map] at hl
      repeat' first
        | refine pw_seq ?_
        | refine pw_skip ?_
        | refine pw_ret ?_
        | refine pw_exit ?_
        | refine pw_block ?_
        | refine pw_region (Nat.beq 21) hmix ?_
        | (refine rc (hv) rfl ?_ ?_; (· first | rfl | (simp (disch := omega) only [go_sem, simprocAttr, hp0]; done)))
        | (refine wpG_split rfl rfl (fun hc => ?_) (fun hc => ?_) <;> try simp only [hcL, reduceCtorEq] at hc)
        | (refine pw_cond _ rfl rfl (fun hc => ?_) (fun hc => ?_) <;> (try simp only [hcL, reduceCtorEq] at hc) <;> try (exfalso; omega))
        | simp (maxSteps := 1000000) (disch := omega) only [go_sem, simprocAttr, hp0]
        | apply And.intro
        | omega
        | decide +kernel
      refine pw_loopI (κ := Nat) (fun (k : Nat) => k ≤ c.length / 3) (fun (k : Nat) => [(0, .d (ptsD c)), (1, .int n), (5, .ref 21 2 0 (outF c n k).length (outF c n k).length), (6, .int (3 * k))]) (fun (k : Nat) => [(21, .row 2 ((outF c n k).map ptD))]) (fun (k : Nat) => c.length - k) 0 ?_ ?_ ?_
      · exact Nat.zero_le _
      · exact eL [] _ _ (by refine ⟨?_, ?_⟩ <;> (repeat' first | exact List.forall_mem_nil _ | refine List.forall_mem_cons.2 ⟨(by first | rfl | (simp (disch := omega) only [go_sem, simprocAttr, inL, outF_zero hp0]; first | done | omega | (congr 1; done))), ?_⟩); done)
      · intro k hk
        have hlen := outF_len n h k hk
        have hlk : k * 2 ^ n ≤ k * 16 := Nat.mul_le_mul_left _ hpow
        rcases Nat.lt_or_ge k (c.length / 3) with hlt | hge
        · obtain ⟨p, hp⟩ := get_some (show 3 * k < c.length by omega)
          obtain ⟨q, hq⟩ := get_some (show 3 * k + 1 < c.length by omega)
          obtain ⟨r, hr⟩ := get_some (show 3 * k + 2 < c.length by omega)
          obtain ⟨s, hs⟩ := get_some (show 3 * k + 3 < c.length by omega)
          have e0 : (3 * (k : Int)).toNat = 3 * k := by omega
          have e1 : (3 * (k : Int) + 1).toNat = 3 * k + 1 := by omega
          have e2 : (3 * (k : Int) + 2).toNat = 3 * k + 2 := by omega
          have e3 : (3 * (k : Int) + 3).toNat = 3 * k + 3 := by omega
          have ho := outF_succ (n := n) hp hq hr hs
          have hh := halve_spec n n (outF c n k) p q r s rfl (by omega) (by omega) (curveOk_in h hp) (curveOk_in h hq) (curveOk_in h hr) (curveOk_in h hs)
          repeat' first
            | refine pw_seq ?_
            | refine pw_skip ?_
            | refine pw_ret ?_
            | refine pw_exit ?_
            | refine pw_block ?_
            | refine pw_region (fun _ => false) hmix ?_
            | refine rcM [(1000, 21), (2000, 50)] (hh) rfl ?_
            | (refine wpG_split rfl rfl (fun hc => ?_) (fun hc => ?_) <;> try simp only [hcL, reduceCtorEq] at hc)
            | (refine pw_cond _ rfl rfl (fun hc => ?_) (fun hc => ?_) <;> (try simp only [hcL, reduceCtorEq] at hc) <;> try (exfalso; omega))
            | simp (maxSteps := 1000000) (disch := omega) only [go_sem, simprocAttr, e0, e1, e2, e3, hp, hq, hr, hs]
            | apply And.intro
            | omega
            | decide +kernel
          refine ⟨k + 1, ?_, eL [(21, 50)] _ _ (by refine ⟨?_, ?_⟩ <;> (repeat' first | exact List.forall_mem_nil _ | refine List.forall_mem_cons.2 ⟨(by first | rfl | (simp (disch := omega) only [go_sem, simprocAttr, inL, ho, List.length_append, List.map_append]; first | done | omega | (congr 1; done))), ?_⟩); done), ?_⟩
          · omega
          · omega
        · repeat' first
            | refine pw_seq ?_
            | refine pw_skip ?_
            | refine pw_ret ?_
            | refine pw_exit ?_
            | refine pw_block ?_
            | refine pw_region (fun _ => false) hmix ?_
            | (refine wpG_split rfl rfl (fun hc => ?_) (fun hc => ?_) <;> try simp only [hcL, reduceCtorEq] at hc)
            | (refine pw_cond _ rfl rfl (fun hc => ?_) (fun hc => ?_) <;> (try simp only [hcL, reduceCtorEq] at hc) <;> try (exfalso; omega))
            | simp (maxSteps := 1000000) (disch := omega) only [go_sem, simprocAttr]
            | apply And.intro
            | omega
            | decide +kernel
          have : k = c.length / 3 := by omega
          subst this
          exact ret_ref (o := 21) rfl rfl (by simp) (by simp [flatF, h, hd, take_map_len])
    · refine callsTo_of Try.func30 rfl (by decide +kernel) (Nat.le_of_ble_eq_true rfl) ?_
      intro hat B X w0
      have hl := at_len 0 hat rfl
      rw [List.length_map] at hl
      repeat' first
        | refine pw_seq ?_
        | refine pw_skip ?_
        | refine pw_ret ?_
        | refine pw_exit ?_
        | refine pw_block ?_
        | refine pw_region (fun _ => false) hmix ?_
        | (refine rc (hv) rfl ?_ ?_; (· first | rfl | (simp (disch := omega) only [go_sem, simprocAttr]; done)))
        | (refine wpG_split rfl rfl (fun hc => ?_) (fun hc => ?_) <;> try simp only [hcL, reduceCtorEq] at hc)
        | (refine pw_cond _ rfl rfl (fun hc => ?_) (fun hc => ?_) <;> (try simp only [hcL, reduceCtorEq] at hc) <;> try (exfalso; omega))
        | simp (maxSteps := 1000000) (disch := omega) only [go_sem, simprocAttr]
        | apply And.intro
        | omega
        | decide +kernel
      all_goals
        refine sl_some ?_
        have : flatF c depth = [] := by
          simp only [flatF]
          rw [if_neg]
          simp; omega
        rw [this]; rfl
/-- Whether two lists of points are equal. -/
theorem ptSame_spec (a b : List Pt) : CallsTo Try.prog 14 [ptsD a, ptsD b] (.bool (decide (a = b))) := by
  by_cases hl : a.length = b.length
  · refine callsTo_of Try.func14 rfl (by decide +kernel) (Nat.le_of_ble_eq_true rfl) ?_
    intro hat B X w0
    have ha := at_len 0 hat rfl
    rw [List.length_map] at ha
    have hb := at_len 1 hat rfl
    rw [List.length_map] at hb
    repeat' first
      | refine pw_seq ?_
      | refine pw_skip ?_
      | refine pw_ret ?_
      | refine pw_exit ?_
      | refine pw_block ?_
      | refine pw_region (fun _ => false) hmix ?_
      | (refine wpG_split rfl rfl (fun hc => ?_) (fun hc => ?_) <;> try simp only [hcL, reduceCtorEq] at hc)
      | (refine pw_cond _ rfl rfl (fun hc => ?_) (fun hc => ?_) <;> (try simp only [hcL, reduceCtorEq] at hc) <;> try (exfalso; omega))
      | simp (maxSteps := 1000000) (disch := omega) only [go_sem, simprocAttr]
      | apply And.intro
      | omega
      | decide +kernel
    refine pw_loopI (κ := Nat) (fun (k : Nat) => k ≤ a.length ∧ ∀ j, j < k → a[j]? = b[j]?) (fun (k : Nat) => [(0, .d (ptsD a)), (1, .d (ptsD b)), (5, .int k)]) (fun (k : Nat) => []) (fun (k : Nat) => a.length - k) 0 ?_ ?_ ?_
    · exact ⟨Nat.zero_le _, fun j hj => by omega⟩
    · exact eL [] _ _ (by refine ⟨?_, ?_⟩ <;> (repeat' first | exact List.forall_mem_nil _ | refine List.forall_mem_cons.2 ⟨(by first | rfl | (simp (disch := omega) only [go_sem, simprocAttr, inL]; first | done | omega | (congr 1; done))), ?_⟩); done)
    · rintro k ⟨hk, hinv⟩
      rcases Nat.lt_or_ge k a.length with hlt | hge
      · obtain ⟨p, hp⟩ := get_some hlt
        obtain ⟨q, hq⟩ := get_some (show k < b.length by omega)
        repeat' first
          | refine pw_seq ?_
          | refine pw_skip ?_
          | refine pw_ret ?_
          | refine pw_exit ?_
          | refine pw_block ?_
          | refine pw_region (fun _ => false) hmix ?_
          | (refine wpG_split rfl rfl (fun hc => ?_) (fun hc => ?_) <;> try simp only [hcL, reduceCtorEq] at hc)
          | (refine pw_cond _ rfl rfl (fun hc => ?_) (fun hc => ?_) <;> (try simp only [hcL, reduceCtorEq] at hc) <;> try (exfalso; omega))
          | simp (maxSteps := 1000000) (disch := omega) only [go_sem, simprocAttr, hp, hq, ptEq]
          | apply And.intro
          | omega
          | decide +kernel
        · refine bool_some ?_
          have hne : a ≠ b := fun he => by subst he; rw [hp] at hq; cases hq; simp at hc
          simp [hne]
        · refine ⟨k + 1, ?_, eL [] _ _ (by refine ⟨?_, ?_⟩ <;> (repeat' first | exact List.forall_mem_nil _ | refine List.forall_mem_cons.2 ⟨(by first | rfl | (simp (disch := omega) only [go_sem, simprocAttr, inL]; first | done | omega | (congr 1; done))), ?_⟩); done), ?_⟩
          · refine ⟨by omega, fun j hj => ?_⟩
            rcases Nat.lt_succ_iff_lt_or_eq.1 hj with h | h
            · exact hinv j h
            · have hpq : p = q := by simpa using hc
              rw [h, hp, hq, hpq]
          · omega
      · repeat' first
          | refine pw_seq ?_
          | refine pw_skip ?_
          | refine pw_ret ?_
          | refine pw_exit ?_
          | refine pw_block ?_
          | refine pw_region (fun _ => false) hmix ?_
          | (refine wpG_split rfl rfl (fun hc => ?_) (fun hc => ?_) <;> try simp only [hcL, reduceCtorEq] at hc)
          | (refine pw_cond _ rfl rfl (fun hc => ?_) (fun hc => ?_) <;> (try simp only [hcL, reduceCtorEq] at hc) <;> try (exfalso; omega))
          | simp (maxSteps := 1000000) (disch := omega) only [go_sem, simprocAttr]
          | apply And.intro
          | omega
          | decide +kernel
        refine bool_some ?_
        have : a = b := List.ext_getElem? fun j => by
          rcases Nat.lt_or_ge j a.length with h | h
          · exact hinv j (by omega)
          · rw [List.getElem?_eq_none h, List.getElem?_eq_none (by omega)]
        simp [this]
  · refine callsTo_of Try.func14 rfl (by decide +kernel) (Nat.le_of_ble_eq_true rfl) ?_
    intro hat B X w0
    have ha := at_len 0 hat rfl
    rw [List.length_map] at ha
    have hb := at_len 1 hat rfl
    rw [List.length_map] at hb
    repeat' first
      | refine pw_seq ?_
      | refine pw_skip ?_
      | refine pw_ret ?_
      | refine pw_exit ?_
      | refine pw_block ?_
      | refine pw_region (fun _ => false) hmix ?_
      | (refine wpG_split rfl rfl (fun hc => ?_) (fun hc => ?_) <;> try simp only [hcL, reduceCtorEq] at hc)
      | (refine pw_cond _ rfl rfl (fun hc => ?_) (fun hc => ?_) <;> (try simp only [hcL, reduceCtorEq] at hc) <;> try (exfalso; omega))
      | simp (maxSteps := 1000000) (disch := omega) only [go_sem, simprocAttr]
      | apply And.intro
      | omega
      | decide +kernel
    refine bool_some ?_
    have hne : a ≠ b := fun he => hl (by rw [he])
    simp [hne]
end Go.Proofs.Ytelghbnlceeecaa
namespace Go.Proofs.Ytelghbnlceeecaa
open Go Go.PS Go.Proofs
set_option maxRecDepth 100000
set_option linter.unusedSimpArgs false
set_option linter.unusedVariables false
attribute [local irreducible] wpRun wpG CallsTo CallsM

abbrev bxsD (l : List Bx) : D := .sl (l.map bxD)
def bxOf (p : Pt) : Bx := (p.1, p.2, p.1, p.2)
def jn (a b : Bx) : Bx := (if b.1 < a.1 then b.1 else a.1, if b.2.1 < a.2.1 then b.2.1 else a.2.1, if a.2.2.1 < b.2.2.1 then b.2.2.1 else a.2.2.1, if a.2.2.2 < b.2.2.2 then b.2.2.2 else a.2.2.2)
def stepU (o : Bx × Bool) (b : Bx) : Bx × Bool := if bxOk b then (jn (if o.2 then o.1 else b) b, true) else o
def unionF (l : List Bx) : Bx := (l.foldl stepU ((0, 0, 0, 0), false)).1
theorem foldl_take {α β : Type} (f : β → α → β) (z : β) {l : List α} {k : Nat} {x : α} (h : l[k]? = some x) : (l.take (k + 1)).foldl f z = f ((l.take k).foldl f z) x := by
  rw [take_snoc h, List.foldl_append]; rfl
def boxN (c : List Pt) (k : Nat) : Nat → Bx
  | 0 => match c[3 * k]? with | some p => bxOf p | none => (0, 0, 0, 0)
  | j + 1 => match c[3 * k + 1 + j]? with | some x => jn (boxN c k j) (bxOf x) | none => boxN c k j
def hullN (c : List Pt) (k : Nat) : List Bx := catN (fun k => [boxN c k 3]) k
def hullF (c : List Pt) : List Bx := if curveOk c then hullN c (c.length / 3) else []
theorem hullN_len (c : List Pt) (k : Nat) : (hullN c k).length = k := by
  induction k with
  | zero => rfl
  | succ k ih => simp only [hullN, catN, List.length_append] at ih ⊢; rw [ih]; rfl
theorem bxD_cells (l : List Bx) : ∀ d, d ∈ l.map bxD → d.cells.length = 4 := cells_map bxD 4 (fun _ => rfl) l
set_option maxHeartbeats 2000000 in
theorem Hull_spec (c : List Pt) : CallsTo Try.prog 31 [ptsD c] (bxsD (hullF c)) := by
  rcases h : curveOk c with _ | _
  · have hv : CallsTo Try.prog 64 [ptsD c] (.bool false) := h ▸ curve_spec c
    refine callsTo_of Try.func31 rfl (by decide +kernel) (Nat.le_of_ble_eq_true rfl) ?_
    intro hat B X w0
    have hl := at_len 0 hat rfl
    rw [List.length_map] at hl
    repeat' first
      | refine pw_seq ?_
      | refine pw_skip ?_
      | refine pw_ret ?_
      | refine pw_exit ?_
      | refine pw_block ?_
      | refine pw_region (fun _ => false) hmix ?_
      | (refine rc (hv) rfl ?_ ?_; (· first | rfl | (simp (disch := omega) only [go_sem, simprocAttr]; done)))
      | (refine wpG_split rfl rfl (fun hc => ?_) (fun hc => ?_) <;> try simp only [hcL, reduceCtorEq] at hc)
      | (refine pw_cond _ rfl rfl (fun hc => ?_) (fun hc => ?_) <;> (try simp only [hcL, reduceCtorEq] at hc) <;> try (exfalso; omega))
      | simp (maxSteps := 1000000) (disch := omega) only [go_sem, simprocAttr]
      | apply And.intro
      | omega
      | decide +kernel
    refine sl_some ?_
    simp [hullF, h]
  · have hv : CallsTo Try.prog 64 [ptsD c] (.bool true) := h ▸ curve_spec c
    obtain ⟨h1, h2⟩ := curveOk_len h
    refine callsTo_of Try.func31 rfl (by decide +kernel) (Nat.le_of_ble_eq_true rfl) ?_
    intro hat B X w0
    have hl := at_len 0 hat rfl
    rw [List.length_map] at hl
    repeat' first
      | refine pw_seq ?_
      | refine pw_skip ?_
      | refine pw_ret ?_
      | refine pw_exit ?_
      | refine pw_block ?_
      | refine pw_region (fun _ => false) hmix ?_
      | (refine rc (hv) rfl ?_ ?_; (· first | rfl | (simp (disch := omega) only [go_sem, simprocAttr]; done)))
      | (refine wpG_split rfl rfl (fun hc => ?_) (fun hc => ?_) <;> try simp only [hcL, reduceCtorEq] at hc)
      | (refine pw_cond _ rfl rfl (fun hc => ?_) (fun hc => ?_) <;> (try simp only [hcL, reduceCtorEq] at hc) <;> try (exfalso; omega))
      | simp (maxSteps := 1000000) (disch := omega) only [go_sem, simprocAttr]
      | apply And.intro
      | omega
      | decide +kernel
    refine pw_ent _ (ent_nil 3 900 4 rfl rfl) ?_
    refine pw_loopI (κ := Nat) (fun (k : Nat) => k ≤ c.length / 3) (fun (k : Nat) => [(0, .d (ptsD c)), (3, .ref 900 4 0 (hullN c k).length (hullN c k).length), (4, .int (3 * k))]) (fun (k : Nat) => [(900, .row 4 ((hullN c k).map bxD))]) (fun (k : Nat) => c.length - k) 0 ?_ ?_ ?_
    · exact Nat.zero_le _
    · exact eL [] _ _ (by refine ⟨?_, ?_⟩ <;> (repeat' first | exact List.forall_mem_nil _ | refine List.forall_mem_cons.2 ⟨(by first | rfl | (simp (disch := omega) only [go_sem, simprocAttr, inL]; first | done | omega | (congr 1; done))), ?_⟩); done)
    · intro k hk
      have hlen := hullN_len c k
      rcases Nat.lt_or_ge k (c.length / 3) with hlt | hge
      · obtain ⟨p, hp⟩ := get_some (show 3 * k < c.length by omega)
        have e0 : (3 * (k : Int)).toNat = 3 * k := by omega
        have e1 : (3 * (k : Int) + 1).toNat = 3 * k + 1 := by omega
        have e4 : (3 * (k : Int) + 4).toNat = 3 * k + 4 := by omega
        repeat' first
          | refine pw_seq ?_
          | refine pw_skip ?_
          | refine pw_ret ?_
          | refine pw_exit ?_
          | refine pw_block ?_
          | refine pw_region (fun _ => false) hmix ?_
          | (refine wpG_split rfl rfl (fun hc => ?_) (fun hc => ?_) <;> try simp only [hcL, reduceCtorEq] at hc)
          | (refine pw_cond _ rfl rfl (fun hc => ?_) (fun hc => ?_) <;> (try simp only [hcL, reduceCtorEq] at hc) <;> try (exfalso; omega))
          | simp (maxSteps := 1000000) (disch := omega) only [go_sem, simprocAttr, e0, e1, e4, hp]
          | exact ptD_cells _
          | apply And.intro
          | omega
          | decide +kernel
        refine pw_loopI (κ := Nat) (fun (j : Nat) => j ≤ 3) (fun (j : Nat) => [(0, .d (ptsD c)), (3, .ref 900 4 0 (hullN c k).length (hullN c k).length), (4, .int (3 * k)), (5, .ptr 5 0 0 0), (44, .d (.sl (List.drop (3 * k + 1) (List.take (3 * k + 4) (List.map ptD c))))), (45, .int 3), (46, .int j)]) (fun (j : Nat) => [(900, .row 4 ((hullN c k).map bxD)), (5, .cells [.int (boxN c k j).1, .int (boxN c k j).2.1, .int (boxN c k j).2.2.1, .int (boxN c k j).2.2.2])]) (fun (j : Nat) => 3 - j) 0 ?_ ?_ ?_
        · exact Nat.zero_le _
        · exact eL [] _ _ (by refine ⟨?_, ?_⟩ <;> (repeat' first | exact List.forall_mem_nil _ | refine List.forall_mem_cons.2 ⟨(by first | rfl | (simp (disch := omega) only [go_sem, simprocAttr, inL, boxN, hp, bxOf, List.length_drop, List.length_take, List.length_map]; first | done | omega | (congr 1; done))), ?_⟩); done)
        · intro j hj
          rcases Nat.lt_or_ge j 3 with hjl | hjg
          · obtain ⟨x, hx⟩ := get_some (show 3 * k + 1 + j < c.length by omega)
            repeat' first
              | refine pw_seq ?_
              | refine pw_skip ?_
              | refine pw_ret ?_
              | refine pw_exit ?_
              | refine pw_block ?_
              | refine pw_region (fun _ => false) hmix ?_
              | (refine wpG_split rfl rfl (fun hc => ?_) (fun hc => ?_) <;> try simp only [hcL, reduceCtorEq] at hc)
              | (refine pw_cond _ rfl rfl (fun hc => ?_) (fun hc => ?_) <;> (try simp only [hcL, reduceCtorEq] at hc) <;> try (exfalso; omega))
              | simp (maxSteps := 1000000) (disch := omega) only [go_sem, simprocAttr, hx, List.getElem?_drop, List.getElem?_take_of_lt, List.length_drop, List.length_take]
              | apply And.intro
              | omega
              | decide +kernel
            refine ⟨j + 1, ?_, eL [] _ _ (by refine ⟨?_, ?_⟩ <;> (repeat' first | exact List.forall_mem_nil _ | refine List.forall_mem_cons.2 ⟨(by first | rfl | (simp (disch := omega) only [go_sem, simprocAttr, inL, boxN, hx, jn, bxOf]; first | done | omega | (congr 1; done))), ?_⟩); done), ?_⟩
            · omega
            · omega
          · have : j = 3 := by omega
            subst this
            repeat' first
              | refine pw_seq ?_
              | refine pw_skip ?_
              | refine pw_ret ?_
              | refine pw_exit ?_
              | refine pw_block ?_
              | refine pw_region (fun _ => false) hmix ?_
              | (refine wpG_split rfl rfl (fun hc => ?_) (fun hc => ?_) <;> try simp only [hcL, reduceCtorEq] at hc)
              | (refine pw_cond _ rfl rfl (fun hc => ?_) (fun hc => ?_) <;> (try simp only [hcL, reduceCtorEq] at hc) <;> try (exfalso; omega))
              | simp (maxSteps := 1000000) (disch := omega) only [go_sem, simprocAttr, roomy, take_map_len]
              | exact bxD_cells _
              | apply And.intro
              | omega
              | decide +kernel
            refine ⟨k + 1, ?_, eL [(900, 75)] _ _ (by refine ⟨?_, ?_⟩ <;> (repeat' first | exact List.forall_mem_nil _ | refine List.forall_mem_cons.2 ⟨(by first | rfl | (simp (disch := omega) only [go_sem, simprocAttr, inL, hullN, catN, List.length_append, List.map_append]; first | done | omega | (congr 1; done))), ?_⟩); done), ?_⟩
            · omega
            · omega
      · repeat' first
          | refine pw_seq ?_
          | refine pw_skip ?_
          | refine pw_ret ?_
          | refine pw_exit ?_
          | refine pw_block ?_
          | refine pw_region (fun _ => false) hmix ?_
          | (refine wpG_split rfl rfl (fun hc => ?_) (fun hc => ?_) <;> try simp only [hcL, reduceCtorEq] at hc)
          | (refine pw_cond _ rfl rfl (fun hc => ?_) (fun hc => ?_) <;> (try simp only [hcL, reduceCtorEq] at hc) <;> try (exfalso; omega))
          | simp (maxSteps := 1000000) (disch := omega) only [go_sem, simprocAttr]
          | apply And.intro
          | omega
          | decide +kernel
        have : k = c.length / 3 := by omega
        subst this
        exact ret_ref (o := 900) rfl rfl (by simp) (by simp [hullF, h, take_map_len])

theorem jn_self (b : Bx) : jn b b = b := by simp [jn]
theorem bxOf_ok (p : Pt) : bxOk (bxOf p) = ptOk p := by simp [bxOk, bxOf]
def boxesN (c : List Pt) (k : Nat) (j : Nat) : List Bx := catN (fun j => match c[3 * k + j]? with | some p => [bxOf p] | none => []) j
theorem boxesN_len {c : List Pt} {k : Nat} (h : 3 * k + 3 < c.length) : ∀ j, j ≤ 4 → (boxesN c k j).length = j := by
  intro j
  induction j with
  | zero => intro _; rfl
  | succ j ih =>
    intro hj
    obtain ⟨x, hx⟩ := get_some (show 3 * k + j < c.length by omega)
    have := ih (by omega)
    simp only [boxesN, catN, List.length_append, hx] at this ⊢
    rw [this]; rfl
theorem union_box {c : List Pt} {k : Nat} (hc : curveOk c = true) (h : 3 * k + 3 < c.length) : unionF (boxesN c k 4) = boxN c k 3 := by
  obtain ⟨p, hp⟩ := get_some (show 3 * k < c.length by omega)
  obtain ⟨q, hq⟩ := get_some (show 3 * k + 1 < c.length by omega)
  obtain ⟨r, hr⟩ := get_some (show 3 * k + 2 < c.length by omega)
  obtain ⟨s, hs⟩ := get_some (show 3 * k + 3 < c.length by omega)
  have ok : ∀ {j : Nat} {x : Pt}, c[j]? = some x → bxOk (bxOf x) = true := fun hx => by
    rw [bxOf_ok]
    simp only [curveOk, Bool.and_eq_true, Bool.not_eq_true', List.any_eq_false] at hc
    simpa using hc.2 _ (List.mem_of_getElem? hx)
  have hx2 : c[3 * k + 1 + 1]? = some r := hr
  have hx3 : c[3 * k + 1 + 2]? = some s := hs
  simp only [boxesN, catN, Nat.add_zero, hp, hq, hr, hs, unionF, List.nil_append, List.cons_append, List.foldl_cons, List.foldl_nil, stepU, ok hp, ok hq, ok hr, ok hs, if_true, Bool.false_eq_true, if_false, jn_self, boxN, hx2, hx3]
end Go.Proofs.Ytelghbnlceeecaa
namespace Go.Proofs.Ytelghbnlceeecaa
open Go Go.PS Go.Proofs
set_option maxRecDepth 100000
set_option linter.unusedSimpArgs false
set_option linter.unusedVariables false
attribute [local irreducible] wpRun wpG CallsTo CallsM

theorem mul_bnd {a b A B : Int} (h1 : -A ≤ a) (h2 : a ≤ A) (h3 : -B ≤ b) (h4 : b ≤ B) : -(A * B) ≤ a * b ∧ a * b ≤ A * B := by
  have hab : (a * b).natAbs ≤ (A * B).natAbs := by
    rw [Int.natAbs_mul, Int.natAbs_mul]; exact Nat.mul_le_mul (by omega) (by omega)
  have : 0 ≤ A * B := Int.mul_nonneg (by omega) (by omega)
  omega
abbrev ratD (r : Int × Int) : D := .ag [.int r.1, .int r.2]
abbrev sgD (p q : Pt) : D := .ag [.int p.1, .int p.2, .int q.1, .int q.2]
/-- Where a coordinate lies between two numbers: the bounds, and the step made positive. -/
def nspan (f by' low high : Int) : Int × Int × Int := if by' < 0 then (-high - -f, -low - -f, -by') else (low - f, high - f, by')
def okS (s : Int × Int × Int) : Bool := if s.2.2 = 0 then decide (s.1 < 0) && decide (0 < s.2.1) else decide (s.1 < s.2.1) && decide (s.1 < s.2.2) && decide (0 < s.2.1)
def spanD (f by' low high : Int) : D := let s := nspan f by' low high
  if by' = 0 then .tup [ratD (0, 0), ratD (0, 0), .bool true, .bool (okS s)] else .tup [ratD (s.1, s.2.2), ratD (s.2.1, s.2.2), .bool false, .bool (okS s)]
theorem lt_pos {a b c : Int} (h : 0 < c) : (a * c < b * c) = (a < b) := propext ⟨fun h2 => Int.lt_of_mul_lt_mul_right h2 (Int.le_of_lt h), fun h2 => Int.mul_lt_mul_of_pos_right h2 h⟩
end Go.Proofs.Ytelghbnlceeecaa
namespace Go.Proofs.Ytelghbnlceeecaa
open Go Go.PS Go.Proofs
set_option maxRecDepth 100000
set_option linter.unusedSimpArgs false
set_option linter.unusedVariables false
attribute [local irreducible] wpRun wpG CallsTo CallsM

def rOk (s : Int × Int × Int) : Bool := decide (0 < s.2.2) || (decide (s.1 < 0) && decide (0 < s.2.1))
abbrev rspanD (s : Int × Int × Int) : D := .ag [.int s.1, .int s.2.1, .int s.2.2, .bool (rOk s)]
def hitsF (b : Bx) (p q : Pt) : Bool := bxOk b && ptOk p && ptOk q &&
  (let x := nspan p.1 (q.1 - p.1) b.1 b.2.2.1; let y := nspan p.2 (q.2 - p.2) b.2.1 b.2.2.2
   okS x && okS y && (decide (x.2.2 = 0) || decide (y.2.2 = 0) || (decide (x.1 * y.2.2 < y.2.1 * x.2.2) && decide (y.1 * x.2.2 < x.2.1 * y.2.2))))
theorem nspan_bnd {f b low high : Int} (h : -268435456 ≤ f ∧ f ≤ 268435456 ∧ -536870912 ≤ b ∧ b ≤ 536870912 ∧ -268435456 ≤ low ∧ low ≤ 268435456 ∧ -268435456 ≤ high ∧ high ≤ 268435456) :
    -536870912 ≤ (nspan f b low high).1 ∧ (nspan f b low high).1 ≤ 536870912 ∧ -536870912 ≤ (nspan f b low high).2.1 ∧ (nspan f b low high).2.1 ≤ 536870912 ∧ 0 ≤ (nspan f b low high).2.2 ∧ (nspan f b low high).2.2 ≤ 536870912 ∧ ((nspan f b low high).2.2 = 0 ↔ b = 0) := by
  by_cases hn : b < 0
  · have e : nspan f b low high = (-high - -f, -low - -f, -b) := by simp [nspan, hn]
    rw [e]; refine ⟨?_, ?_, ?_, ?_, ?_, ?_, ?_⟩ <;> simp only <;> omega
  · have e : nspan f b low high = (low - f, high - f, b) := by simp [nspan, hn]
    rw [e]; refine ⟨?_, ?_, ?_, ?_, ?_, ?_, Iff.rfl⟩ <;> simp only <;> omega
theorem bxOk_bnd {b : Bx} (h : bxOk b = true) : -268435456 ≤ b.1 ∧ b.1 ≤ 268435456 ∧ -268435456 ≤ b.2.1 ∧ b.2.1 ≤ 268435456 ∧ -268435456 ≤ b.2.2.1 ∧ b.2.2.1 ≤ 268435456 ∧ -268435456 ≤ b.2.2.2 ∧ b.2.2.2 ≤ 268435456 := by
  simp only [bxOk, ptOk, Bool.and_eq_true, decide_eq_true_eq] at h
  omega
theorem ptOk_bnd {p : Pt} (h : ptOk p = true) : -268435456 ≤ p.1 ∧ p.1 ≤ 268435456 ∧ -268435456 ≤ p.2 ∧ p.2 ≤ 268435456 := by
  simpa [ptOk] using h
attribute [local irreducible] nspan okS
theorem spanD_zero {f b low high : Int} (h : b = 0) : spanD f b low high = .tup [ratD (0, 0), ratD (0, 0), .bool true, .bool (okS (nspan f b low high))] := by simp [spanD, h]
theorem spanD_ne {f b low high : Int} (h : b ≠ 0) : spanD f b low high = .tup [ratD ((nspan f b low high).1, (nspan f b low high).2.2), ratD ((nspan f b low high).2.1, (nspan f b low high).2.2), .bool false, .bool (okS (nspan f b low high))] := by simp [spanD, h]
end Go.Proofs.Ytelghbnlceeecaa
namespace Go.Proofs.Ytelghbnlceeecaa
open Go Go.PS Go.Proofs
set_option maxRecDepth 100000
set_option linter.unusedSimpArgs false
set_option linter.unusedVariables false
attribute [local irreducible] wpRun wpG CallsTo CallsM

def freeOf (boxes : List Bx) (p q : Pt) (k : Nat) : Bool := match boxes[k]? with | some b => !hitsF b p q | none => true
def segOk (l : List Pt) (boxes : List Bx) (j : Nat) : Bool := match l[j]?, l[j + 1]? with
  | some p, some q => allN (freeOf boxes p q) boxes.length
  | _, _ => true
def clearF (l : List Pt) (boxes : List Bx) : Bool := allN (segOk l boxes) (l.length - 1)
attribute [local irreducible] hitsF
theorem rtAwake_spec : CallsTo Try.prog 11 [] (.bool true) := by
  have c1 : curveF [(0, 0), (24, 36)] = [(0, 0), (0, 12), (24, 24), (24, 36)] := by decide +kernel
  have c2 : flatF [(0, 0), (0, 12), (24, 24), (24, 36)] 1 = [(0, 0), (12, 18), (24, 36)] := by decide +kernel
  have s1 := Curve_spec [(0, 0), (24, 36)]
  have s2 := Flatten_spec [(0, 0), (0, 12), (24, 24), (24, 36)] 1
  have s3 := Hull_spec [(0, 0), (0, 12), (24, 24), (24, 36)]
  have s4 := ptSame_spec [(0, 0), (0, 12), (24, 24), (24, 36)] [(0, 0), (0, 12), (24, 24), (24, 36)]
  have s5 := ptSame_spec [(0, 0), (12, 18), (24, 36)] [(0, 0), (12, 18), (24, 36)]
  have c3 : hullF [(0, 0), (0, 12), (24, 24), (24, 36)] = [(0, 0, 24, 36)] := by decide +kernel
  rw [c1] at s1
  rw [c2] at s2
  rw [c3] at s3
  simp only [decide_true] at s4 s5
  refine callsTo_of Try.func11 rfl (by decide +kernel) (Nat.le_of_ble_eq_true rfl) ?_
  intro hat B X w0
  repeat' first
    | refine pw_seq ?_
    | refine pw_skip ?_
    | refine pw_ret ?_
    | refine pw_exit ?_
    | refine pw_block ?_
    | refine pw_region (fun _ => false) hmix ?_
    | (refine rc (s1) rfl ?_ ?_; (· first | rfl | (simp (disch := omega) only [go_sem, simprocAttr]; done)))
    | (refine rc (s2) rfl ?_ ?_; (· first | rfl | (simp (disch := omega) only [go_sem, simprocAttr]; done)))
    | (refine rc (s3) rfl ?_ ?_; (· first | rfl | (simp (disch := omega) only [go_sem, simprocAttr]; done)))
    | (refine rc (s4) rfl ?_ ?_; (· first | rfl | (simp (disch := omega) only [go_sem, simprocAttr]; done)))
    | (refine rc (s5) rfl ?_ ?_; (· first | rfl | (simp (disch := omega) only [go_sem, simprocAttr]; done)))
    | (refine wpG_split rfl rfl (fun hc => ?_) (fun hc => ?_) <;> try simp only [hcL, reduceCtorEq] at hc)
    | (refine pw_cond _ rfl rfl (fun hc => ?_) (fun hc => ?_) <;> (try simp only [hcL, reduceCtorEq] at hc) <;> try (exfalso; omega))
    | simp (maxSteps := 1000000) (disch := omega) only [go_sem, simprocAttr]
    | apply And.intro
    | omega
    | decide +kernel
  exact bool_some rfl
end Go.Proofs.Ytelghbnlceeecaa
namespace Go.Proofs.Ytelghbnlceeecaa
open Go Go.PS Go.Proofs
set_option maxRecDepth 100000
set_option linter.unusedSimpArgs false
set_option linter.unusedVariables false
attribute [local irreducible] wpRun wpG CallsTo CallsM

theorem rangeAny_true {p : Nat → Bool} {n k : Nat} (hk : k < n) (h : p k = true) : (List.range n).any p = true := List.any_eq_true.2 ⟨k, List.mem_range.2 hk, h⟩
theorem rangeAny_false {p : Nat → Bool} {n : Nat} (h : ∀ k, k < n → p k = false) : (List.range n).any p = false := by
  rw [Bool.eq_false_iff]
  intro hq
  obtain ⟨k, hk, hp⟩ := List.any_eq_true.1 hq
  rw [h k (List.mem_range.1 hk)] at hp; cases hp
theorem below_succ {p : Nat → Bool} {k : Nat} (h : ∀ j, j < k → p j = false) (hk : p k = false) : ∀ j, j < k + 1 → p j = false := by
  intro j hj
  rcases Nat.lt_succ_iff_lt_or_eq.1 hj with h1 | rfl
  · exact h j h1
  · exact hk
theorem co1_spec (x : Int) : CallsTo Try.prog 103 [.int x] (.bool (coB x)) := by
  refine callsTo_of Try.func103 rfl (by decide +kernel) (Nat.le_of_ble_eq_true rfl) ?_
  intro hat B X w0
  repeat' first
    | refine pw_seq ?_
    | refine pw_skip ?_
    | refine pw_ret ?_
    | refine pw_exit ?_
    | refine pw_block ?_
    | refine pw_region (fun _ => false) hmix ?_
    | (refine wpG_split rfl rfl (fun hc => ?_) (fun hc => ?_) <;> try simp only [hcL, reduceCtorEq] at hc)
    | (refine pw_cond _ rfl rfl (fun hc => ?_) (fun hc => ?_) <;> (try simp only [hcL, reduceCtorEq] at hc) <;> try (exfalso; omega))
    | simp (maxSteps := 1000000) (disch := omega) only [go_sem, simprocAttr]
    | apply And.intro
    | omega
    | decide +kernel
  all_goals
    refine bool_some ?_
    simp only [coB, *, decide_true, decide_false, Bool.true_or, Bool.or_true, Bool.false_or, Bool.or_false]
theorem co_spec (l : List Int) : CallsTo Try.prog 66 [intsD l] (.bool (!l.any coB)) := by
  have h := containsF_spec l 103 coB co1_spec
  refine callsTo_of Try.func66 rfl (by decide +kernel) (Nat.le_of_ble_eq_true rfl) ?_
  intro hat B X w0
  repeat' first
    | refine pw_seq ?_
    | refine pw_skip ?_
    | refine pw_ret ?_
    | refine pw_exit ?_
    | refine pw_block ?_
    | refine pw_region (fun _ => false) hmix ?_
    | (refine rc (h) rfl ?_ ?_; (· first | rfl | (simp (disch := omega) only [go_sem, simprocAttr]; done)))
    | (refine wpG_split rfl rfl (fun hc => ?_) (fun hc => ?_) <;> try simp only [hcL, reduceCtorEq] at hc)
    | (refine pw_cond _ rfl rfl (fun hc => ?_) (fun hc => ?_) <;> (try simp only [hcL, reduceCtorEq] at hc) <;> try (exfalso; omega))
    | simp (maxSteps := 1000000) (disch := omega) only [go_sem, simprocAttr]
    | apply And.intro
    | omega
    | decide +kernel
  exact bool_some rfl
set_option maxHeartbeats 4000000 in
theorem fits_spec (a : Lv) (x t b : List Int) (hw : wide a) : CallsTo Try.prog 32 [lvD a, intsD x, intsD t, intsD b] (.bool (fitsF a x t b)) := by
  have hv := LvValid_spec a hw
  rw [fitsF]
  rcases h : validF a with _ | _ <;> rw [h] at hv
  · refine callsTo_of Try.func32 rfl (by decide +kernel) (Nat.le_of_ble_eq_true rfl) ?_
    intro hat B X w0
    repeat' first
      | refine pw_seq ?_
      | refine pw_skip ?_
      | refine pw_ret ?_
      | refine pw_exit ?_
      | refine pw_block ?_
      | refine pw_region (fun _ => false) hmix ?_
      | (refine rc (hv) rfl ?_ ?_; (· first | rfl | (simp (disch := omega) only [go_sem, simprocAttr, List.append_eq]; done)))
      | (refine wpG_split rfl rfl (fun hc => ?_) (fun hc => ?_) <;> try simp only [hcL, reduceCtorEq] at hc)
      | (refine pw_cond _ rfl rfl (fun hc => ?_) (fun hc => ?_) <;> (try simp only [hcL, reduceCtorEq] at hc) <;> try (exfalso; omega))
      | simp (maxSteps := 1000000) (disch := omega) only [go_sem, simprocAttr, List.append_eq]
      | apply And.intro
      | omega
      | decide +kernel
    exact bool_some rfl
  · obtain ⟨t1, t2⟩ := lv_le h
    have h1 := co_spec x
    have h2 := co_spec t
    have h3 := co_spec b
    rw [lensB]
    obtain ⟨n, ls, ar, cs⟩ := a
    dsimp only at t1 t2 hv ⊢
    refine callsTo_of Try.func32 rfl (by decide +kernel) (Nat.le_of_ble_eq_true rfl) ?_
    intro hat B X w0
    have hx := at_len 1 hat rfl
    have ht := at_len 2 hat rfl
    have hb := at_len 3 hat rfl
    rw [List.length_map] at hx ht hb
    repeat' first
      | refine pw_seq ?_
      | refine pw_skip ?_
      | refine pw_ret ?_
      | refine pw_exit ?_
      | refine pw_block ?_
      | refine pw_region (fun _ => false) hmix ?_
      | (refine rc (hv) rfl ?_ ?_; (· first | rfl | (simp (disch := omega) only [go_sem, simprocAttr, List.append_eq]; done)))
      | (refine wpG_split rfl rfl (fun hc => ?_) (fun hc => ?_) <;> try simp only [hcL, reduceCtorEq] at hc)
      | (refine pw_cond _ rfl rfl (fun hc => ?_) (fun hc => ?_) <;> (try simp only [hcL, reduceCtorEq] at hc) <;> try (exfalso; omega))
      | simp (maxSteps := 1000000) (disch := omega) only [go_sem, simprocAttr, List.append_eq]
      | apply And.intro
      | omega
      | decide +kernel
    refine pw_loopI (κ := Nat) (fun (k : Nat) => k ≤ ls.length) (fun (k : Nat) => [(1, .d (intsD x)), (2, .d (intsD t)), (3, .d (intsD b)), (4, .ptr 4 0 0 0), (9, .int (tot (ls.take k))), (17, .d (listsD ls)), (18, .int ls.length), (19, .int k)]) (fun (k : Nat) => [(4, .cells [.int n, .d (listsD ls), .d (arcsD ar), .d (listsD cs)])]) (fun (k : Nat) => ls.length - k) 0 ?_ ?_ ?_
    · exact Nat.zero_le _
    · exact eL [] _ _ (by refine ⟨?_, ?_⟩ <;> (repeat' first | exact List.forall_mem_nil _ | refine List.forall_mem_cons.2 ⟨(by first | rfl | (simp (disch := omega) only [go_sem, simprocAttr, inL, List.take_zero, tot]; first | done | omega | (congr 1; done))), ?_⟩); done)
    · intro k hk
      have hle := tot_take_le ls k
      rcases Nat.lt_or_ge k ls.length with hlt | hge
      · obtain ⟨y, hy⟩ := get_some hlt
        have e1 := tot_snoc hy
        have hle2 := tot_take_le ls (k + 1)
        repeat' first
          | refine pw_seq ?_
          | refine pw_skip ?_
          | refine pw_ret ?_
          | refine pw_exit ?_
          | refine pw_block ?_
          | refine pw_region (fun _ => false) hmix ?_
          | (refine wpG_split rfl rfl (fun hc => ?_) (fun hc => ?_) <;> try simp only [hcL, reduceCtorEq] at hc)
          | (refine pw_cond _ rfl rfl (fun hc => ?_) (fun hc => ?_) <;> (try simp only [hcL, reduceCtorEq] at hc) <;> try (exfalso; omega))
          | simp (maxSteps := 1000000) (disch := omega) only [go_sem, simprocAttr, hy]
          | apply And.intro
          | omega
          | decide +kernel
        refine ⟨k + 1, ?_, eL [] _ _ (by refine ⟨?_, ?_⟩ <;> (repeat' first | exact List.forall_mem_nil _ | refine List.forall_mem_cons.2 ⟨(by first | rfl | (simp (disch := omega) only [go_sem, simprocAttr, inL, e1, Int.natCast_add]; first | done | omega | (congr 1; done))), ?_⟩); done), ?_⟩
        · omega
        · omega
      · have : k = ls.length := by omega
        subst this
        try dsimp only
        rw [List.take_length]
        rcases c1 : x.any coB with _ | _ <;> rw [c1] at h1 <;> rcases c2 : t.any coB with _ | _ <;> rw [c2] at h2 <;> rcases c3 : b.any coB with _ | _ <;> rw [c3] at h3
        · by_cases c : x.length = tot ls ∧ t.length = ls.length ∧ b.length = ls.length
          · obtain ⟨ca, cb, cc⟩ := c
            have caI : (x.length : Int) = tot ls := by omega
            have cbI : (t.length : Int) = ls.length := by omega
            have ccI : (b.length : Int) = ls.length := by omega
            repeat' first
              | refine pw_seq ?_
              | refine pw_skip ?_
              | refine pw_ret ?_
              | refine pw_exit ?_
              | refine pw_block ?_
              | refine pw_region (fun _ => false) hmix ?_
              | (refine rc (h1) rfl ?_ ?_; (· first | rfl | (simp (disch := omega) only [go_sem, simprocAttr, List.append_eq, caI, cbI, ccI]; done)))
              | (refine rc (h2) rfl ?_ ?_; (· first | rfl | (simp (disch := omega) only [go_sem, simprocAttr, List.append_eq, caI, cbI, ccI]; done)))
              | (refine rc (h3) rfl ?_ ?_; (· first | rfl | (simp (disch := omega) only [go_sem, simprocAttr, List.append_eq, caI, cbI, ccI]; done)))
              | (refine wpG_split rfl rfl (fun hc => ?_) (fun hc => ?_) <;> try simp only [hcL, reduceCtorEq] at hc)
              | (refine pw_cond _ rfl rfl (fun hc => ?_) (fun hc => ?_) <;> (try simp only [hcL, reduceCtorEq] at hc) <;> try (exfalso; omega))
              | simp (maxSteps := 1000000) (disch := omega) only [go_sem, simprocAttr, List.append_eq, caI, cbI, ccI]
              | apply And.intro
              | omega
              | decide +kernel
            refine pw_loopI (κ := Nat) (fun (k : Nat) => k ≤ t.length ∧ ∀ j, j < k → upB t b j = false) (fun (k : Nat) => [(2, .d (intsD t)), (3, .d (intsD b)), (64, .int t.length), (65, .int k)]) (fun (k : Nat) => []) (fun (k : Nat) => t.length - k) 0 ?_ ?_ ?_
            · exact ⟨Nat.zero_le _, fun j hj => by omega⟩
            · exact eL [] _ _ (by refine ⟨?_, ?_⟩ <;> (repeat' first | exact List.forall_mem_nil _ | refine List.forall_mem_cons.2 ⟨(by first | rfl | (simp (disch := omega) only [go_sem, simprocAttr, inL, cbI]; first | done | omega | (congr 1; done))), ?_⟩); done)
            · rintro k ⟨hk, hinv⟩
              rcases Nat.lt_or_ge k t.length with hlt | hge
              · have g1 := at0_at hlt
                have g2 := at0_at (r := b) (i := k) (by omega)
                rcases k with _ | k
                · have hu : upB t b 0 = decide (at0 b 0 < at0 t 0) := by simp [upB]
                  have g1 : t[0]? = some (at0 t 0) := g1
                  have g2 : b[0]? = some (at0 b 0) := g2
                  by_cases d1 : at0 b 0 < at0 t 0
                  · repeat' first
                      | refine pw_seq ?_
                      | refine pw_skip ?_
                      | refine pw_ret ?_
                      | refine pw_exit ?_
                      | refine pw_block ?_
                      | refine pw_region (fun _ => false) hmix ?_
                      | (refine wpG_split rfl rfl (fun hc => ?_) (fun hc => ?_) <;> try simp only [hcL, reduceCtorEq] at hc)
                      | (refine pw_cond _ rfl rfl (fun hc => ?_) (fun hc => ?_) <;> (try simp only [hcL, reduceCtorEq] at hc) <;> try (exfalso; omega))
                      | simp (maxSteps := 1000000) (disch := omega) only [go_sem, simprocAttr, List.append_eq, g1, g2, d1]
                      | apply And.intro
                      | omega
                      | decide +kernel
                    refine bool_some ?_
                    rw [rangeAny_true (k := 0) (by omega) (by rw [hu, decide_eq_true d1])]; simp
                  · repeat' first
                      | refine pw_seq ?_
                      | refine pw_skip ?_
                      | refine pw_ret ?_
                      | refine pw_exit ?_
                      | refine pw_block ?_
                      | refine pw_region (fun _ => false) hmix ?_
                      | (refine wpG_split rfl rfl (fun hc => ?_) (fun hc => ?_) <;> try simp only [hcL, reduceCtorEq] at hc)
                      | (refine pw_cond _ rfl rfl (fun hc => ?_) (fun hc => ?_) <;> (try simp only [hcL, reduceCtorEq] at hc) <;> try (exfalso; omega))
                      | simp (maxSteps := 1000000) (disch := omega) only [go_sem, simprocAttr, List.append_eq, g1, g2, d1]
                      | apply And.intro
                      | omega
                      | decide +kernel
                    refine ⟨1, ?_, eL [] _ _ (by refine ⟨?_, ?_⟩ <;> (repeat' first | exact List.forall_mem_nil _ | refine List.forall_mem_cons.2 ⟨(by first | rfl | (simp (disch := omega) only [go_sem, simprocAttr, inL]; first | done | omega | (congr 1; done))), ?_⟩); done), ?_⟩
                    · exact ⟨by omega, below_succ hinv (by rw [hu, decide_eq_false d1])⟩
                    · omega
                · have g3 := at0_at (r := b) (i := k) (by omega)
                  have ek : ((k + 1 : Nat) : Int) - 1 = k := by omega
                  have ek0 : (0 : Int) < ((k + 1 : Nat) : Int) := by omega
                  have hu : upB t b (k + 1) = (decide (at0 b ((k + 1 : Nat) : Int) < at0 t ((k + 1 : Nat) : Int)) || decide (at0 t ((k + 1 : Nat) : Int) < at0 b (k : Int))) := by simp [upB]
                  by_cases d1 : at0 b ((k + 1 : Nat) : Int) < at0 t ((k + 1 : Nat) : Int)
                  · repeat' first
                      | refine pw_seq ?_
                      | refine pw_skip ?_
                      | refine pw_ret ?_
                      | refine pw_exit ?_
                      | refine pw_block ?_
                      | refine pw_region (fun _ => false) hmix ?_
                      | (refine wpG_split rfl rfl (fun hc => ?_) (fun hc => ?_) <;> try simp only [hcL, reduceCtorEq] at hc)
                      | (refine pw_cond _ rfl rfl (fun hc => ?_) (fun hc => ?_) <;> (try simp only [hcL, reduceCtorEq] at hc) <;> try (exfalso; omega))
                      | simp (maxSteps := 1000000) (disch := omega) only [go_sem, simprocAttr, List.append_eq, g1, g2, d1]
                      | apply And.intro
                      | omega
                      | decide +kernel
                    refine bool_some ?_
                    rw [rangeAny_true hlt (by rw [hu, decide_eq_true d1]; rfl)]; simp
                  · by_cases d2 : at0 t ((k + 1 : Nat) : Int) < at0 b (k : Int)
                    · repeat' first
                        | refine pw_seq ?_
                        | refine pw_skip ?_
                        | refine pw_ret ?_
                        | refine pw_exit ?_
                        | refine pw_block ?_
                        | refine pw_region (fun _ => false) hmix ?_
                        | (refine wpG_split rfl rfl (fun hc => ?_) (fun hc => ?_) <;> try simp only [hcL, reduceCtorEq] at hc)
                        | (refine pw_cond _ rfl rfl (fun hc => ?_) (fun hc => ?_) <;> (try simp only [hcL, reduceCtorEq] at hc) <;> try (exfalso; omega))
                        | simp (maxSteps := 1000000) (disch := omega) only [go_sem, simprocAttr, List.append_eq, g1, g2, g3, d1, d2, ek, ek0]
                        | apply And.intro
                        | omega
                        | decide +kernel
                      refine bool_some ?_
                      rw [rangeAny_true hlt (by rw [hu, decide_eq_true d2, Bool.or_true])]; simp
                    · repeat' first
                        | refine pw_seq ?_
                        | refine pw_skip ?_
                        | refine pw_ret ?_
                        | refine pw_exit ?_
                        | refine pw_block ?_
                        | refine pw_region (fun _ => false) hmix ?_
                        | (refine wpG_split rfl rfl (fun hc => ?_) (fun hc => ?_) <;> try simp only [hcL, reduceCtorEq] at hc)
                        | (refine pw_cond _ rfl rfl (fun hc => ?_) (fun hc => ?_) <;> (try simp only [hcL, reduceCtorEq] at hc) <;> try (exfalso; omega))
                        | simp (maxSteps := 1000000) (disch := omega) only [go_sem, simprocAttr, List.append_eq, g1, g2, g3, d1, d2, ek, ek0]
                        | apply And.intro
                        | omega
                        | decide +kernel
                      refine ⟨k + 1 + 1, ?_, eL [] _ _ (by refine ⟨?_, ?_⟩ <;> (repeat' first | exact List.forall_mem_nil _ | refine List.forall_mem_cons.2 ⟨(by first | rfl | (simp (disch := omega) only [go_sem, simprocAttr, inL]; first | done | omega | (congr 1; done))), ?_⟩); done), ?_⟩
                      · exact ⟨by omega, below_succ hinv (by rw [hu, decide_eq_false d1, decide_eq_false d2]; rfl)⟩
                      · omega
              · repeat' first
                  | refine pw_seq ?_
                  | refine pw_skip ?_
                  | refine pw_ret ?_
                  | refine pw_exit ?_
                  | refine pw_block ?_
                  | refine pw_region (fun _ => false) hmix ?_
                  | (refine wpG_split rfl rfl (fun hc => ?_) (fun hc => ?_) <;> try simp only [hcL, reduceCtorEq] at hc)
                  | (refine pw_cond _ rfl rfl (fun hc => ?_) (fun hc => ?_) <;> (try simp only [hcL, reduceCtorEq] at hc) <;> try (exfalso; omega))
                  | simp (maxSteps := 1000000) (disch := omega) only [go_sem, simprocAttr]
                  | apply And.intro
                  | omega
                  | decide +kernel
                refine bool_some ?_
                rw [rangeAny_false (fun j hj => hinv j (by omega)), decide_eq_true ⟨ca, cb, cc⟩]; rfl
          · rw [decide_eq_false c]
            repeat' first
              | refine pw_seq ?_
              | refine pw_skip ?_
              | refine pw_ret ?_
              | refine pw_exit ?_
              | refine pw_block ?_
              | refine pw_region (fun _ => false) hmix ?_
              | (refine rc (h1) rfl ?_ ?_; (· first | rfl | (simp (disch := omega) only [go_sem, simprocAttr, List.append_eq]; done)))
              | (refine rc (h2) rfl ?_ ?_; (· first | rfl | (simp (disch := omega) only [go_sem, simprocAttr, List.append_eq]; done)))
              | (refine rc (h3) rfl ?_ ?_; (· first | rfl | (simp (disch := omega) only [go_sem, simprocAttr, List.append_eq]; done)))
              | (refine wpG_split rfl rfl (fun hc => ?_) (fun hc => ?_) <;> try simp only [hcL, reduceCtorEq] at hc)
              | (refine pw_cond _ rfl rfl (fun hc => ?_) (fun hc => ?_) <;> (try simp only [hcL, reduceCtorEq] at hc) <;> try (exfalso; omega))
              | simp (maxSteps := 1000000) (disch := omega) only [go_sem, simprocAttr, List.append_eq]
              | apply And.intro
              | omega
              | decide +kernel
            all_goals exact bool_some (by simp)
        all_goals
          repeat' first
            | refine pw_seq ?_
            | refine pw_skip ?_
            | refine pw_ret ?_
            | refine pw_exit ?_
            | refine pw_block ?_
            | refine pw_region (fun _ => false) hmix ?_
            | (refine rc (h1) rfl ?_ ?_; (· first | rfl | (simp (disch := omega) only [go_sem, simprocAttr, List.append_eq]; done)))
            | (refine rc (h2) rfl ?_ ?_; (· first | rfl | (simp (disch := omega) only [go_sem, simprocAttr, List.append_eq]; done)))
            | (refine rc (h3) rfl ?_ ?_; (· first | rfl | (simp (disch := omega) only [go_sem, simprocAttr, List.append_eq]; done)))
            | (refine wpG_split rfl rfl (fun hc => ?_) (fun hc => ?_) <;> try simp only [hcL, reduceCtorEq] at hc)
            | (refine pw_cond _ rfl rfl (fun hc => ?_) (fun hc => ?_) <;> (try simp only [hcL, reduceCtorEq] at hc) <;> try (exfalso; omega))
            | simp (maxSteps := 1000000) (disch := omega) only [go_sem, simprocAttr, List.append_eq]
            | apply And.intro
            | omega
            | decide +kernel
          all_goals exact bool_some (by simp)
end Go.Proofs.Ytelghbnlceeecaa
