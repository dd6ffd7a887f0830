/- The reference's Inversions; costs, by the program and by the reference. -/
import Derived.Test.YtelghbnlceeecaaStD
import Derived.Test.YtelghbnlceeecaaCe
set_option linter.unusedSimpArgs false
set_option linter.unusedVariables false
namespace Go.Proofs.Ytelghbnlceeecaa
open Go Go.PS Go.Proofs
open Go.Bd (ix invF invN comN refN refB)
set_option maxRecDepth 100000
attribute [local irreducible] wpRun wpG CallsTo CallsM

theorem lstN_at {l : List (List Int)} {k : Nat} {y : List Int} (h : l[k]? = some y) : lstN l k = y := by rw [lstN, h]; rfl
theorem lstN_out {l : List (List Int)} {k : Nat} (h : l.length ≤ k) : lstN l k = [] := by rw [lstN, List.getElem?_eq_none h]; rfl
theorem list_spec (old : List (List Int)) (i : Nat) : CallsTo Try.prog 44 [listsD old, .int i] (intsD (lstN old i)) := by
  rcases Nat.lt_or_ge i old.length with hlt | hge
  · obtain ⟨y, hy⟩ := get_some hlt
    rw [lstN_at hy]
    refine callsTo_of Try.func44 rfl (by decide +kernel) (Nat.le_of_ble_eq_true rfl) ?_
    intro hat B X w0
    repeat' first | refine pw_seq ?_ | refine pw_skip ?_ | refine pw_ret ?_ | refine pw_exit ?_ | refine pw_block ?_ | refine pw_region (fun _ => false) hmix ?_ | (refine wpG_split rfl rfl (fun hc => ?_) (fun hc => ?_) <;> try simp only [hcL, reduceCtorEq] at hc) | (refine pw_cond _ rfl rfl (fun hc => ?_) (fun hc => ?_) <;> (try simp only [hcL, reduceCtorEq] at hc) <;> try (exfalso; omega)) | simp (maxSteps := 1000000) (disch := omega) only [go_sem, simprocAttr, hy] | apply And.intro | omega | decide +kernel
    exact sl_some rfl
  · rw [lstN_out hge]
    refine callsTo_of Try.func44 rfl (by decide +kernel) (Nat.le_of_ble_eq_true rfl) ?_
    intro hat B X w0
    repeat' first | refine pw_seq ?_ | refine pw_skip ?_ | refine pw_ret ?_ | refine pw_exit ?_ | refine pw_block ?_ | refine pw_region (fun _ => false) hmix ?_ | (refine wpG_split rfl rfl (fun hc => ?_) (fun hc => ?_) <;> try simp only [hcL, reduceCtorEq] at hc) | (refine pw_cond _ rfl rfl (fun hc => ?_) (fun hc => ?_) <;> (try simp only [hcL, reduceCtorEq] at hc) <;> try (exfalso; omega)) | simp (maxSteps := 1000000) (disch := omega) only [go_sem, simprocAttr] | apply And.intro | omega | decide +kernel
    exact sl_some rfl
theorem before_spec (old : List (List Int)) (i : Nat) : CallsTo Try.prog 47 [listsD old, .int i] (intsD (lstN old i)) := by
  rcases Nat.lt_or_ge i old.length with hlt | hge
  · obtain ⟨y, hy⟩ := get_some hlt
    rw [lstN_at hy]
    refine callsTo_of Try.func47 rfl (by decide +kernel) (Nat.le_of_ble_eq_true rfl) ?_
    intro hat B X w0
    repeat' first | refine pw_seq ?_ | refine pw_skip ?_ | refine pw_ret ?_ | refine pw_exit ?_ | refine pw_block ?_ | refine pw_region (fun _ => false) hmix ?_ | (refine wpG_split rfl rfl (fun hc => ?_) (fun hc => ?_) <;> try simp only [hcL, reduceCtorEq] at hc) | (refine pw_cond _ rfl rfl (fun hc => ?_) (fun hc => ?_) <;> (try simp only [hcL, reduceCtorEq] at hc) <;> try (exfalso; omega)) | simp (maxSteps := 1000000) (disch := omega) only [go_sem, simprocAttr, hy] | apply And.intro | omega | decide +kernel
    exact sl_some rfl
  · rw [lstN_out hge]
    refine callsTo_of Try.func47 rfl (by decide +kernel) (Nat.le_of_ble_eq_true rfl) ?_
    intro hat B X w0
    repeat' first | refine pw_seq ?_ | refine pw_skip ?_ | refine pw_ret ?_ | refine pw_exit ?_ | refine pw_block ?_ | refine pw_region (fun _ => false) hmix ?_ | (refine wpG_split rfl rfl (fun hc => ?_) (fun hc => ?_) <;> try simp only [hcL, reduceCtorEq] at hc) | (refine pw_cond _ rfl rfl (fun hc => ?_) (fun hc => ?_) <;> (try simp only [hcL, reduceCtorEq] at hc) <;> try (exfalso; omega)) | simp (maxSteps := 1000000) (disch := omega) only [go_sem, simprocAttr] | apply And.intro | omega | decide +kernel
    exact sl_some rfl
def okW (a : Lv) (w : Int) : Bool := validF a && decide (0 ≤ w ∧ w ≤ 1000)
theorem wrong_spec (a : Lv) (w : Int) (hw : wide a) : CallsTo Try.prog 43 [lvD a, .int w] (.bool (!okW a w)) := by
  have hv := LvValid_spec a hw
  rw [okW]
  rcases h : validF a with _ | _ <;> rw [h] at hv
  all_goals
    refine callsTo_of Try.func43 rfl (by decide +kernel) (Nat.le_of_ble_eq_true rfl) ?_
    intro hat B X w0
    repeat' first | refine pw_seq ?_ | refine pw_skip ?_ | refine pw_ret ?_ | refine pw_exit ?_ | refine pw_block ?_ | refine pw_region (fun _ => false) hmix ?_ | (refine rc (hv) rfl ?_ ?_; (· first | rfl | (simp (disch := omega) only [go_sem, simprocAttr, List.append_eq]; done))) | (refine wpG_split rfl rfl (fun hc => ?_) (fun hc => ?_) <;> try simp only [hcL, reduceCtorEq] at hc) | (refine pw_cond _ rfl rfl (fun hc => ?_) (fun hc => ?_) <;> (try simp only [hcL, reduceCtorEq] at hc) <;> try (exfalso; omega)) | simp (maxSteps := 1000000) (disch := omega) only [go_sem, simprocAttr, List.append_eq] | apply And.intro | omega | decide +kernel
    all_goals
      refine bool_some ?_
      try rw [Bool.eq_iff_iff]
      try simp only [Bool.not_eq_true', Bool.and_eq_false_imp, Bool.and_eq_true, decide_eq_true_eq, decide_eq_false_iff_not, Bool.false_eq_true, Bool.false_and, Bool.true_and, false_iff, true_iff, Bool.not_false]
      try omega
/-- The inversions of the first layers. -/
def invS (a : Lv) (old : List (List Int)) (k : Nat) : Int := sumZ (fun i => (invF (lstN old i) (lstN a.2.1 i) : Int)) k
def costF (a : Lv) (old : List (List Int)) (w : Int) : Int := if okW a w then TotalF a + w * invS a old a.2.1.length else -1
theorem layer_le {a : Lv} (h : validF a = true) (k : Nat) : (lstN a.2.1 k).length ≤ 512 := by
  obtain ⟨t1, t2⟩ := lv_le h
  rcases Nat.lt_or_ge k a.2.1.length with hlt | hge
  · obtain ⟨y, hy⟩ := get_some hlt
    rw [lstN_at hy]
    have := tot_mem (List.mem_of_getElem? hy)
    omega
  · rw [lstN_out hge]; simp
theorem inv_le {a : Lv} (h : validF a = true) (old : List (List Int)) (k : Nat) : invF (lstN old k) (lstN a.2.1 k) ≤ 262144 :=
  Nat.le_trans (invF_le _ _) (Nat.le_trans (Nat.mul_le_mul (layer_le h k) (layer_le h k)) (by decide))
theorem invS_le {a : Lv} (h : validF a = true) (old : List (List Int)) (k : Nat) (hk : k ≤ 256) : 0 ≤ invS a old k ∧ invS a old k ≤ 67108864 := by
  have := sumZ_bound (f := fun i => (invF (lstN old i) (lstN a.2.1 i) : Int)) (c := 262144) k fun i _ => by
    have := inv_le h old i
    omega
  rw [invS]
  have h2 : ((k * 262144 : Nat) : Int) ≤ 67108864 := by omega
  omega
theorem invS_w {a : Lv} (h : validF a = true) (old : List (List Int)) {w : Int} (hw : 0 ≤ w ∧ w ≤ 1000) (k : Nat) (hk : k ≤ 256) : 0 ≤ w * invS a old k ∧ w * invS a old k ≤ 67108864000 := by
  obtain ⟨h1, h2⟩ := invS_le h old k hk
  refine ⟨Int.mul_nonneg hw.1 h1, ?_⟩
  exact Int.le_trans (Int.mul_le_mul hw.2 h2 h1 (by decide)) (by decide)
theorem TotalF_le {a : Lv} (h : validF a = true) : 0 ≤ TotalF a ∧ TotalF a ≤ 92160000000000 := by
  obtain ⟨t1, _⟩ := lv_le h
  have := sumZ_bound (f := fun i => BetweenF a i) (c := 360000000000) a.2.1.length fun i _ => BetweenF_le a i
  rw [TotalF]
  have h2 : ((a.2.1.length * 360000000000 : Nat) : Int) ≤ 92160000000000 := by omega
  omega
set_option maxHeartbeats 2000000 in
theorem Cost_spec (a : Lv) (old : List (List Int)) (w : Int) (hw : wide a) : CallsTo Try.prog 19 [lvD a, listsD old, .int w] (.int (costF a old w)) := by
  have h1 := wrong_spec a w hw
  rw [costF]
  rcases h : okW a w with _ | _ <;> rw [h] at h1
  · refine callsTo_of Try.func19 rfl (by decide +kernel) (Nat.le_of_ble_eq_true rfl) ?_
    intro hat B X w0
    repeat' first | refine pw_seq ?_ | refine pw_skip ?_ | refine pw_ret ?_ | refine pw_exit ?_ | refine pw_block ?_ | refine pw_region (fun _ => false) hmix ?_ | (refine rc (h1) rfl ?_ ?_; (· first | rfl | (simp (disch := omega) only [go_sem, simprocAttr, List.append_eq]; done))) | (refine wpG_split rfl rfl (fun hc => ?_) (fun hc => ?_) <;> try simp only [hcL, reduceCtorEq] at hc) | (refine pw_cond _ rfl rfl (fun hc => ?_) (fun hc => ?_) <;> (try simp only [hcL, reduceCtorEq] at hc) <;> try (exfalso; omega)) | simp (maxSteps := 1000000) (disch := omega) only [go_sem, simprocAttr, List.append_eq] | apply And.intro | omega | decide +kernel
    exact int_some rfl
  · rw [if_pos rfl]
    simp only [okW, Bool.and_eq_true, decide_eq_true_eq] at h
    obtain ⟨hv, hwt⟩ := h
    obtain ⟨t1, t2⟩ := lv_le hv
    have h2 := Total_spec a hw (by omega)
    have hT := TotalF_le hv
    have hS := invS_w hv old hwt a.2.1.length t1
    have hI := invS_le hv old
    have hl := list_spec old
    have hiv : ∀ i : Nat, CallsTo Try.prog 16 [intsD (lstN old i), intsD (lstN a.2.1 i)] (.int (invF (lstN old i) (lstN a.2.1 i))) := fun i => Inversions_spec _ _ (by have := layer_le hv i; omega)
    have hil := inv_le hv old
    have hSd : ∀ k, invS a old (k + 1) = invS a old k + (invF (lstN old k) (lstN a.2.1 k) : Int) := fun k => rfl
    have hS0 : invS a old 0 = 0 := rfl
    generalize invS a old = S at *
    generalize TotalF a = T at *
    obtain ⟨n, ls, ar, cs⟩ := a
    dsimp only at *
    refine callsTo_of Try.func19 rfl (by decide +kernel) (Nat.le_of_ble_eq_true rfl) ?_
    intro hat B X w0
    repeat' first | refine pw_seq ?_ | refine pw_skip ?_ | refine pw_ret ?_ | refine pw_exit ?_ | refine pw_block ?_ | refine pw_region (fun _ => false) hmix ?_ | (refine rc (h1) rfl ?_ ?_; (· first | rfl | (simp (disch := omega) only [go_sem, simprocAttr, List.append_eq]; done))) | (refine wpG_split rfl rfl (fun hc => ?_) (fun hc => ?_) <;> try simp only [hcL, reduceCtorEq] at hc) | (refine pw_cond _ rfl rfl (fun hc => ?_) (fun hc => ?_) <;> (try simp only [hcL, reduceCtorEq] at hc) <;> try (exfalso; omega)) | simp (maxSteps := 1000000) (disch := omega) only [go_sem, simprocAttr, List.append_eq] | apply And.intro | omega | decide +kernel
    refine pw_loopI (κ := Nat) (fun (k : Nat) => k ≤ ls.length) (fun (k : Nat) => [(1, .d (listsD old)), (2, .int w), (3, .ptr 3 0 0 0), (7, .int (S k)), (14, .d (listsD ls)), (15, .int ls.length), (16, .int k)]) (fun (k : Nat) => [(3, .cells [.int n, .d (listsD ls), .d (arcsD ar), .d (listsD cs)])]) (fun (k : Nat) => ls.length - k) 0 ?_ ?_ ?_
    · exact Nat.zero_le _
    · exact eL [] _ _ (by refine ⟨?_, ?_⟩ <;> (repeat' first | exact List.forall_mem_nil _ | refine List.forall_mem_cons.2 ⟨(by first | rfl | (simp (disch := omega) only [go_sem, simprocAttr, inL, hS0]; first | done | omega | (congr 1; done))), ?_⟩); done)
    · intro k hk
      have b1 := hI k (by omega)
      rcases Nat.lt_or_ge k ls.length with hlt | hge
      · obtain ⟨y, hy⟩ := get_some hlt
        have g1 := hl k
        have g2 := hiv k
        have g3 := hil k
        have g4 := hSd k
        rw [lstN_at hy] at g2 g3 g4
        repeat' first | refine pw_seq ?_ | refine pw_skip ?_ | refine pw_ret ?_ | refine pw_exit ?_ | refine pw_block ?_ | refine pw_region (fun _ => false) hmix ?_ | (refine rc (g1) rfl ?_ ?_; (· first | rfl | (simp (disch := omega) only [go_sem, simprocAttr, hy]; done))) | (refine rc (g2) rfl ?_ ?_; (· first | rfl | (simp (disch := omega) only [go_sem, simprocAttr, hy]; done))) | (refine wpG_split rfl rfl (fun hc => ?_) (fun hc => ?_) <;> try simp only [hcL, reduceCtorEq] at hc) | (refine pw_cond _ rfl rfl (fun hc => ?_) (fun hc => ?_) <;> (try simp only [hcL, reduceCtorEq] at hc) <;> try (exfalso; omega)) | simp (maxSteps := 1000000) (disch := omega) only [go_sem, simprocAttr, hy] | apply And.intro | omega | decide +kernel
        refine ⟨k + 1, ?_, eL [] _ _ (by refine ⟨?_, ?_⟩ <;> (repeat' first | exact List.forall_mem_nil _ | refine List.forall_mem_cons.2 ⟨(by first | rfl | (simp (disch := omega) only [go_sem, simprocAttr, inL, g4]; first | done | omega | (congr 1; done))), ?_⟩); done), ?_⟩
        · omega
        · omega
      · have : k = ls.length := by omega
        subst this
        repeat' first | refine pw_seq ?_ | refine pw_skip ?_ | refine pw_ret ?_ | refine pw_exit ?_ | refine pw_block ?_ | refine pw_region (fun _ => false) hmix ?_ | (refine rc (h2) rfl ?_ ?_; (· first | rfl | (simp (disch := omega) only [go_sem, simprocAttr, List.append_eq]; done))) | (refine wpG_split rfl rfl (fun hc => ?_) (fun hc => ?_) <;> try simp only [hcL, reduceCtorEq] at hc) | (refine pw_cond _ rfl rfl (fun hc => ?_) (fun hc => ?_) <;> (try simp only [hcL, reduceCtorEq] at hc) <;> try (exfalso; omega)) | simp (maxSteps := 1000000) (disch := omega) only [go_sem, simprocAttr, List.append_eq] | apply And.intro | omega | decide +kernel
        exact int_some rfl
end Go.Proofs.Ytelghbnlceeecaa
namespace Go.Proofs.Ytelghbnlceeecaa
open Go Go.PS Go.Proofs
open Go.Bd (ix invF invN comN refN refB)
set_option maxRecDepth 100000
attribute [local irreducible] wpRun wpG CallsTo CallsM

/-- A row of numbers; one that is changed up to a place. -/
def rowG (g : Nat → Int) (n : Nat) : List Int := (List.range n).map g
def mixR (f g : Nat → Int) (n b : Nat) : List Int := rowG (fun v => if v < b then g v else f v) n
theorem rowG_len (g : Nat → Int) (n : Nat) : (rowG g n).length = n := by simp [rowG]
theorem rowG_get {g : Nat → Int} {n v : Nat} (h : v < n) : (rowG g n)[v]? = some (g v) := by simp [rowG, h]
theorem rowG_congr {f g : Nat → Int} {n : Nat} (h : ∀ v, v < n → f v = g v) : rowG f n = rowG g n := List.map_congr_left fun v hv => h v (List.mem_range.1 hv)
theorem mixR_len (f g : Nat → Int) (n b : Nat) : (mixR f g n b).length = n := rowG_len _ _
theorem mixR_zero (f g : Nat → Int) (n : Nat) : mixR f g n 0 = rowG f n := rowG_congr fun v _ => if_neg (by omega)
theorem mixR_full (f g : Nat → Int) (n : Nat) : mixR f g n n = rowG g n := rowG_congr fun v hv => if_pos hv
theorem mixR_get {f g : Nat → Int} {n b : Nat} (h : b < n) : (mixR f g n b)[b]? = some (f b) := by rw [mixR, rowG_get h, if_neg (by omega)]
theorem mixR_step {f g : Nat → Int} {n b : Nat} (h : b < n) : (mixR f g n b).set b (g b) = mixR f g n (b + 1) := by
  refine List.ext_getElem? fun v => ?_
  rw [List.getElem?_set, mixR_len]
  by_cases c : b = v
  · subst c
    rw [if_pos rfl, if_pos h, mixR, rowG_get h, if_pos (by omega)]
  · rw [if_neg c]
    by_cases c2 : v < n
    · rw [mixR, mixR, rowG_get c2, rowG_get c2]
      by_cases c3 : v < b
      · rw [if_pos c3, if_pos (by omega)]
      · rw [if_neg c3, if_neg (by omega)]
    · rw [List.getElem?_eq_none (by rw [mixR_len]; omega), List.getElem?_eq_none (by rw [mixR_len]; omega)]
theorem mixR_same {f g : Nat → Int} {n b : Nat} (h : b < n) (he : f b = g b) : mixR f g n (b + 1) = mixR f g n b := by
  rw [← mixR_step h]
  refine List.ext_getElem? fun v => ?_
  rw [List.getElem?_set, mixR_len]
  by_cases c : b = v
  · subst c; rw [if_pos rfl, if_pos h, mixR_get h, he]
  · rw [if_neg c]
theorem rowG_zero (n : Nat) : List.replicate n (D.int 0) = (rowG (fun _ => 0) n).map D.int := by
  rw [rowG, List.map_map]
  refine List.ext_getElem? fun v => ?_
  by_cases c : v < n <;> simp [List.getElem?_replicate, c]
/-- The weight of a pair of places. -/
def wCell (old y : List Int) (w : Int) (u v : Nat) : Int := if 0 ≤ ix old (at0 y v) ∧ ix old (at0 y v) < ix old (at0 y u) then w else 0
/-- The neighbor layers, one after the other. -/
def fixT (i : Nat) (t : Nat) : Int := if t = 0 then (i : Int) - 1 else (i : Int) + 1
/-- The matrix after the first t neighbors. -/
def accC (a : Lv) (old y : List Int) (w : Int) (i : Nat) : Nat → Nat → Nat → Int
  | 0, u, v => wCell old y w u v
  | t + 1, u, v => accC a old y w i t u v + cellAt (MatrixF a i (fixT i t)) u v
def sqM (g : Nat → Nat → Int) (n : Nat) : List (List Int) := (List.range n).map fun u => rowG (g u) n
def stM (a : Lv) (old y : List Int) (w : Int) (i : Nat) : List (List Int) := sqM (accC a old y w i 2) y.length
theorem cellAt_le {m : List (List Int)} (h : Sq m) (u v : Nat) : 0 ≤ cellAt m u v ∧ cellAt m u v ≤ 1000000 := by
  by_cases hu : u < m.length
  · by_cases hv : v < m.length
    · obtain ⟨_, _, _, _, h1, h2⟩ := h.get hu hv
      exact ⟨h1, h2⟩
    · obtain ⟨p, hp⟩ := get_some hu
      have := h.row p (List.mem_of_getElem? hp)
      rw [cellAt, lstN_at hp, at0, Int.toNat_natCast, List.getElem?_eq_none (by omega)]; decide
  · rw [cellAt, lstN_out (by omega)]; simp [at0]
theorem accC_le (a : Lv) (old y : List Int) {w : Int} (hw : 0 ≤ w ∧ w ≤ 1000) (i : Nat) : ∀ t u v, 0 ≤ accC a old y w i t u v ∧ accC a old y w i t u v ≤ 1000 + 1000000 * t
  | 0, u, v => by
    rw [accC, wCell]; split <;> omega
  | t + 1, u, v => by
    have ih := accC_le a old y hw i t u v
    have := cellAt_le (MatrixF_sq a i (fixT i t)) u v
    rw [accC]; omega
end Go.Proofs.Ytelghbnlceeecaa
namespace Go.Proofs.Ytelghbnlceeecaa
open Go Go.PS Go.Proofs
open Go.Bd (ix invF invN comN refN refB)
set_option maxRecDepth 100000
attribute [local irreducible] wpRun wpG CallsTo CallsM

set_option maxHeartbeats 16000000 in
theorem matrix_spec (a : Lv) (old y : List Int) (w : Int) (i : Nat) (hw : wide a) (hv : validF a = true) (hwt : 0 ≤ w ∧ w ≤ 1000) (hy : a.2.1[i]? = some y) :
    CallsTo Try.prog 53 [lvD a, intsD old, .int w, .int i] (listsD (stM a old y w i)) := by
  have hil := (List.getElem?_eq_some_iff.1 hy).1
  obtain ⟨t1, t2⟩ := lv_le hv
  have hyl := tot_mem (List.mem_of_getElem? hy)
  have hacc := accC_le a old y hwt i
  have haccS : ∀ t u v, accC a old y w i (t + 1) u v = accC a old y w i t u v + cellAt (MatrixF a i (fixT i t)) u v := fun _ _ _ => rfl
  have haccZ : ∀ u v, accC a old y w i 0 u v = wCell old y w u v := fun _ _ => rfl
  have hMsq : ∀ t, Sq (MatrixF a i (fixT i t)) := fun t => MatrixF_sq a i (fixT i t)
  have hMlen : ∀ t, (MatrixF a i (fixT i t)).length = 0 ∨ (MatrixF a i (fixT i t)).length = y.length := fun t => by
    rw [MatrixF]
    split
    · right
      simp [matF, endsF, lenAt, hy]
    · left; rfl
  have hMs : ∀ t, CallsTo Try.prog 86 [lvD a, .int i, .int (fixT i t)] (listsD (MatrixF a i (fixT i t))) := fun t => Matrix_spec a i (fixT i t) hw
  rw [stM]
  generalize accC a old y w i = A at *
  obtain ⟨Q, hQ⟩ : ∃ Q : Nat → List (List Int), ∀ t, MatrixF a i (fixT i t) = Q t := ⟨_, fun _ => rfl⟩
  simp only [hQ] at *
  obtain ⟨N, hN⟩ : ∃ N, N = y.length := ⟨_, rfl⟩
  have hN5 : N ≤ 512 := by omega
  obtain ⟨n, ls, ar, cs⟩ := a
  dsimp only at *
  refine callsTo_of Try.func53 rfl (by decide +kernel) (Nat.le_of_ble_eq_true rfl) ?_
  intro hat B X w0
  have hol := at_len 1 hat rfl
  rw [List.length_map] at hol
  repeat' first | refine pw_seq ?_ | refine pw_skip ?_ | refine pw_ret ?_ | refine pw_exit ?_ | refine pw_block ?_ | refine pw_region (fun _ => false) hmix ?_ | (refine wpG_split rfl rfl (fun hc => ?_) (fun hc => ?_) <;> try simp only [hcL, reduceCtorEq] at hc) | (refine pw_cond _ rfl rfl (fun hc => ?_) (fun hc => ?_) <;> (try simp only [hcL, reduceCtorEq] at hc) <;> try (exfalso; omega)) | simp (maxSteps := 1000000) (disch := omega) only [go_sem, simprocAttr, hy, List.append_eq, ← hN] | apply And.intro | omega | decide +kernel
  refine pw_ent _ (ent_famNew 1 30 1 N rfl (fun i hi => by simp (disch := omega) only [go_sem, simprocAttr, obOf_fid, argEnv]) (by decide) (by decide)) ?_
  have hiN : ∀ (k : Nat) (x y : List D), k < N → (if k < N then x else y) = x := fun k x y h => if_pos h
  refine pw_loopF (κ := Nat) (fun (u : Nat) => u ≤ N) (fun (u : Nat) => [(1, .d (intsD old)), (2, .int w), (3, .int i), (4, .ptr 4 0 0 0), (10, .ref 30 1 0 N N), (9, .d (intsD y)), (31, .d (intsD y)), (32, .int N), (33, .int u)]) (fun (u : Nat) => [⟨1, 30, 1, N, fun k => if k < u then (rowG (A 0 k) N).map D.int else []⟩]) (fun (u : Nat) => [(4, .cells [.int n, .d (listsD ls), .d (arcsD ar), .d (listsD cs)])]) (fun (u : Nat) => N - u) 0 ?_ ?_ ?_
  · exact Nat.zero_le _
  · refine eF [] [] _ _ _ (by refine ⟨?_, ?_⟩ <;> (repeat' first | exact List.forall_mem_nil _ | refine List.forall_mem_cons.2 ⟨(by first | rfl | (simp (disch := omega) only [go_sem, simprocAttr, inL, ← hN]; first | done | omega | (congr 1; done))), ?_⟩); done) ?_
    repeat' first | exact List.forall_mem_nil _ | refine List.forall_mem_cons.2 ⟨?_, ?_⟩
    all_goals refine ⟨_, (by first | rfl | (simp (disch := omega) only [go_sem, simprocAttr, Nat.not_lt_zero]; done) | (simp (disch := omega) only [go_sem, simprocAttr, Nat.not_lt_zero]; rfl)), fun i hi => ?_⟩
    all_goals dsimp only at hi ⊢
    all_goals try (exfalso; omega)
    all_goals try (simp (disch := omega) only [go_sem, simprocAttr, Nat.not_lt_zero, fid_lit, lit_fid]; done)
  · intro u hu
    rcases Nat.lt_or_ge u N with hlt | hge
    · obtain ⟨p, hp⟩ := get_some (l := y) (k := u) (by omega)
      have hz : List.replicate N (D.int 0) = (mixR (fun _ => 0) (A 0 u) N 0).map D.int := by rw [mixR_zero, rowG_zero]
      have hnu : ¬ u < u := by omega
      have h1 := indexX_spec old p
      have hpx : at0 y u = p := by rw [at0, Int.toNat_natCast, hp]; rfl
      refine pw_ent _ (ent_bor _ _ [4, 30] 30 u 900 1 1 N (by first | rfl | (simp (disch := omega) only [go_sem, simprocAttr, hnu]; done) | (simp (disch := omega) only [go_sem, simprocAttr, hnu]; rfl)) (by first | (simp (disch := omega) only [go_sem, simprocAttr, hnu]; done) | (simp (disch := omega) only [go_sem, simprocAttr, hnu]; rfl)) (by first | (simp (disch := omega) only [go_sem, simprocAttr, hnu]; done) | (simp (disch := omega) only [go_sem, simprocAttr, hnu]; rfl)) (fun i hi hne => by simp (disch := omega) only [go_sem, simprocAttr, hne, hnu]; (repeat' split) <;> exact .ref _ _ _ _ _ ⟨by simp (disch := omega) only [go_sem, simprocAttr, hne, hnu], by simp (disch := omega) only [go_sem, simprocAttr, hne, hnu]⟩) (by (repeat' first | refine ab_nil ?_ | exact ab_obOf (ids := [4, 30]) rfl rfl (Nat.le_of_ble_eq_true rfl) | refine ab_hole ?_ | refine ab_row ?_ | refine ab_dead ?_ | refine ab_self ?_ | refine ab_self_fam ?_ | refine ab_fam (by dsimp only; omega) (by dsimp only; omega) (by omega) (by omega) (Nat.le_of_ble_eq_true rfl) ?_); done) rfl rfl rfl) ?_
      repeat' first | refine pw_seq ?_ | refine pw_skip ?_ | refine pw_ret ?_ | refine pw_exit ?_ | refine pw_block ?_ | refine pw_region (Nat.beq 42) hmix ?_ | (refine wpG_split rfl rfl (fun hc => ?_) (fun hc => ?_) <;> try simp only [hcL, reduceCtorEq] at hc) | (refine pw_cond _ rfl rfl (fun hc => ?_) (fun hc => ?_) <;> (try simp only [hcL, reduceCtorEq] at hc) <;> try (exfalso; omega)) | simp (maxSteps := 1000000) (disch := omega) only [go_sem, simprocAttr, ← hN, hnu, hp] | apply And.intro | omega | decide +kernel
      refine pw_loopF (κ := Nat) (fun (b : Nat) => b ≤ N) (fun (b : Nat) => [(1, .d (intsD old)), (2, .int w), (3, .int i), (4, .ptr 4 0 0 0), (10, .ref 30 1 0 N N), (9, .d (intsD y)), (11, .int u), (12, .int p), (31, .d (intsD y)), (32, .int N), (33, .int u), (44, .d (intsD y)), (45, .int N), (46, .int b)]) (fun (b : Nat) => [⟨1, 30, 1, N, fun k => if k < u then (rowG (A 0 k) N).map D.int else if k = u then (mixR (fun _ => 0) (A 0 u) N b).map D.int else []⟩]) (fun (b : Nat) => [(4, .cells [.int n, .d (listsD ls), .d (arcsD ar), .d (listsD cs)])]) (fun (b : Nat) => N - b) 0 ?_ ?_ ?_
      · exact Nat.zero_le _
      · refine eF [(fid 1 u, 42)] [] _ _ _ (by refine ⟨?_, ?_⟩ <;> (repeat' first | exact List.forall_mem_nil _ | refine List.forall_mem_cons.2 ⟨(by first | rfl | (simp (disch := omega) only [go_sem, simprocAttr, inL, ← hN]; first | done | omega | (congr 1; done))), ?_⟩); done) ?_
        repeat' first | exact List.forall_mem_nil _ | refine List.forall_mem_cons.2 ⟨?_, ?_⟩
        all_goals refine ⟨_, (by first | rfl | (simp (disch := omega) only [go_sem, simprocAttr, hz, mixR_len, List.length_map, ← hN, hnu]; done) | (simp (disch := omega) only [go_sem, simprocAttr, hz, mixR_len, List.length_map, ← hN, hnu]; rfl)), fun i hi => ?_⟩
        all_goals dsimp only at hi ⊢
        all_goals rcases Decidable.em (i = u) with rfl | hi0
        all_goals try (exfalso; omega)
        all_goals try (simp (disch := omega) only [go_sem, simprocAttr, hz, mixR_len, List.length_map, ← hN, hnu, fid_lit, lit_fid]; done)
        all_goals try (simp (disch := omega) only [go_sem, simprocAttr, hz, mixR_len, List.length_map, ← hN, hnu, hi0, fid_lit, lit_fid]; done)
      · intro b hb
        have hfl2 := mixR_len (fun _ => 0) (A 0 u) N b
        rcases Nat.lt_or_ge b N with hlb | hgb
        · obtain ⟨q, hq⟩ := get_some (l := y) (k := b) (by omega)
          have h2 := indexX_spec old q
          have hqx : at0 y b = q := by rw [at0, Int.toNat_natCast, hq]; rfl
          have hcell : A 0 u b = if 0 ≤ ix old q ∧ ix old q < ix old p then w else 0 := by rw [haccZ, wCell, hpx, hqx]
          have hg : (mixR (fun _ => 0) (A 0 u) N b)[b]? = some 0 := mixR_get hlb
          have hst : (mixR (fun _ => 0) (A 0 u) N b).set b (A 0 u b) = mixR (fun _ => 0) (A 0 u) N (b + 1) := mixR_step hlb
          by_cases c1 : 0 ≤ ix old q
          · by_cases c2 : ix old q < ix old p
            · rw [if_pos ⟨c1, c2⟩] at hcell
              rw [hcell] at hst
              refine pw_ent _ (ent_bor _ _ [4, 30] 30 u 900 1 1 N (by first | rfl | (simp (disch := omega) only [go_sem, simprocAttr, hnu, hfl2]; done) | (simp (disch := omega) only [go_sem, simprocAttr, hnu, hfl2]; rfl)) (by first | (simp (disch := omega) only [go_sem, simprocAttr, hnu, hfl2]; done) | (simp (disch := omega) only [go_sem, simprocAttr, hnu, hfl2]; rfl)) (by first | (simp (disch := omega) only [go_sem, simprocAttr, hnu, hfl2]; done) | (simp (disch := omega) only [go_sem, simprocAttr, hnu, hfl2]; rfl)) (fun i hi hne => by simp (disch := omega) only [go_sem, simprocAttr, hne, hnu, hfl2]; (repeat' split) <;> exact .ref _ _ _ _ _ ⟨by simp (disch := omega) only [go_sem, simprocAttr, hne, hnu, hfl2], by simp (disch := omega) only [go_sem, simprocAttr, hne, hnu, hfl2]⟩) (by (repeat' first | refine ab_nil ?_ | exact ab_obOf (ids := [4, 30]) rfl rfl (Nat.le_of_ble_eq_true rfl) | refine ab_hole ?_ | refine ab_row ?_ | refine ab_dead ?_ | refine ab_self ?_ | refine ab_self_fam ?_ | refine ab_fam (by dsimp only; omega) (by dsimp only; omega) (by omega) (by omega) (Nat.le_of_ble_eq_true rfl) ?_); done) rfl rfl rfl) ?_
              repeat' first | refine pw_seq ?_ | refine pw_skip ?_ | refine pw_ret ?_ | refine pw_exit ?_ | refine pw_block ?_ | refine pw_region (fun _ => false) hmix ?_ | (refine rc (h1) rfl ?_ ?_; (· first | rfl | (simp (disch := omega) only [go_sem, simprocAttr, ← hN, hq, c1, c2, hg, hfl2, hnu]; done))) | (refine rc (h2) rfl ?_ ?_; (· first | rfl | (simp (disch := omega) only [go_sem, simprocAttr, ← hN, hq, c1, c2, hg, hfl2, hnu]; done))) | (refine wpG_split rfl rfl (fun hc => ?_) (fun hc => ?_) <;> try simp only [hcL, reduceCtorEq] at hc) | (refine pw_cond _ rfl rfl (fun hc => ?_) (fun hc => ?_) <;> (try simp only [hcL, reduceCtorEq] at hc) <;> try (exfalso; omega)) | simp (maxSteps := 1000000) (disch := omega) only [go_sem, simprocAttr, ← hN, hq, c1, c2, hg, hfl2, hnu] | apply And.intro | omega | decide +kernel
              refine ⟨b + 1, ?_, eF [(fid 1 u, 900)] [] _ _ _ (by refine ⟨?_, ?_⟩ <;> (repeat' first | exact List.forall_mem_nil _ | refine List.forall_mem_cons.2 ⟨(by first | rfl | (simp (disch := omega) only [go_sem, simprocAttr, inL]; first | done | omega | (congr 1; done))), ?_⟩); done) ?_, ?_⟩
              · omega
              · repeat' first | exact List.forall_mem_nil _ | refine List.forall_mem_cons.2 ⟨?_, ?_⟩
                all_goals refine ⟨_, (by first | rfl | (simp (disch := omega) only [go_sem, simprocAttr, hst.symm, List.map_set, List.length_set, List.length_map, hfl2, hnu]; done) | (simp (disch := omega) only [go_sem, simprocAttr, hst.symm, List.map_set, List.length_set, List.length_map, hfl2, hnu]; rfl)), fun i hi => ?_⟩
                all_goals dsimp only at hi ⊢
                all_goals rcases Decidable.em (i = u) with rfl | hi0
                all_goals try (exfalso; omega)
                all_goals try (simp (disch := omega) only [go_sem, simprocAttr, hst.symm, List.map_set, List.length_set, List.length_map, hfl2, hnu, fid_lit, lit_fid]; done)
                all_goals try (simp (disch := omega) only [go_sem, simprocAttr, hst.symm, List.map_set, List.length_set, List.length_map, hfl2, hnu, hi0, fid_lit, lit_fid]; done)
              · omega
            · rw [if_neg (fun h => c2 h.2)] at hcell
              have hst2 := mixR_same (f := fun _ => 0) hlb hcell.symm
              repeat' first | refine pw_seq ?_ | refine pw_skip ?_ | refine pw_ret ?_ | refine pw_exit ?_ | refine pw_block ?_ | refine pw_region (fun _ => false) hmix ?_ | (refine rc (h1) rfl ?_ ?_; (· first | rfl | (simp (disch := omega) only [go_sem, simprocAttr, ← hN, hq, c1, c2]; done))) | (refine rc (h2) rfl ?_ ?_; (· first | rfl | (simp (disch := omega) only [go_sem, simprocAttr, ← hN, hq, c1, c2]; done))) | (refine wpG_split rfl rfl (fun hc => ?_) (fun hc => ?_) <;> try simp only [hcL, reduceCtorEq] at hc) | (refine pw_cond _ rfl rfl (fun hc => ?_) (fun hc => ?_) <;> (try simp only [hcL, reduceCtorEq] at hc) <;> try (exfalso; omega)) | simp (maxSteps := 1000000) (disch := omega) only [go_sem, simprocAttr, ← hN, hq, c1, c2] | apply And.intro | omega | decide +kernel
              refine ⟨b + 1, ?_, eF [] [] _ _ _ (by refine ⟨?_, ?_⟩ <;> (repeat' first | exact List.forall_mem_nil _ | refine List.forall_mem_cons.2 ⟨(by first | rfl | (simp (disch := omega) only [go_sem, simprocAttr, inL]; first | done | omega | (congr 1; done))), ?_⟩); done) ?_, ?_⟩
              · omega
              · repeat' first | exact List.forall_mem_nil _ | refine List.forall_mem_cons.2 ⟨?_, ?_⟩
                all_goals refine ⟨_, (by first | rfl | (simp (disch := omega) only [go_sem, simprocAttr, hst2, hnu]; done) | (simp (disch := omega) only [go_sem, simprocAttr, hst2, hnu]; rfl)), fun i hi => ?_⟩
                all_goals dsimp only at hi ⊢
                all_goals rcases Decidable.em (i = u) with rfl | hi0
                all_goals try (exfalso; omega)
                all_goals try (simp (disch := omega) only [go_sem, simprocAttr, hst2, hnu, fid_lit, lit_fid]; done)
                all_goals try (simp (disch := omega) only [go_sem, simprocAttr, hst2, hnu, hi0, fid_lit, lit_fid]; done)
              · omega
          · rw [if_neg (fun h => c1 h.1)] at hcell
            have hst2 := mixR_same (f := fun _ => 0) hlb hcell.symm
            repeat' first | refine pw_seq ?_ | refine pw_skip ?_ | refine pw_ret ?_ | refine pw_exit ?_ | refine pw_block ?_ | refine pw_region (fun _ => false) hmix ?_ | (refine rc (h1) rfl ?_ ?_; (· first | rfl | (simp (disch := omega) only [go_sem, simprocAttr, ← hN, hq, c1]; done))) | (refine rc (h2) rfl ?_ ?_; (· first | rfl | (simp (disch := omega) only [go_sem, simprocAttr, ← hN, hq, c1]; done))) | (refine wpG_split rfl rfl (fun hc => ?_) (fun hc => ?_) <;> try simp only [hcL, reduceCtorEq] at hc) | (refine pw_cond _ rfl rfl (fun hc => ?_) (fun hc => ?_) <;> (try simp only [hcL, reduceCtorEq] at hc) <;> try (exfalso; omega)) | simp (maxSteps := 1000000) (disch := omega) only [go_sem, simprocAttr, ← hN, hq, c1] | apply And.intro | omega | decide +kernel
            refine ⟨b + 1, ?_, eF [] [] _ _ _ (by refine ⟨?_, ?_⟩ <;> (repeat' first | exact List.forall_mem_nil _ | refine List.forall_mem_cons.2 ⟨(by first | rfl | (simp (disch := omega) only [go_sem, simprocAttr, inL]; first | done | omega | (congr 1; done))), ?_⟩); done) ?_, ?_⟩
            · omega
            · repeat' first | exact List.forall_mem_nil _ | refine List.forall_mem_cons.2 ⟨?_, ?_⟩
              all_goals refine ⟨_, (by first | rfl | (simp (disch := omega) only [go_sem, simprocAttr, hst2, hnu]; done) | (simp (disch := omega) only [go_sem, simprocAttr, hst2, hnu]; rfl)), fun i hi => ?_⟩
              all_goals dsimp only at hi ⊢
              all_goals rcases Decidable.em (i = u) with rfl | hi0
              all_goals try (exfalso; omega)
              all_goals try (simp (disch := omega) only [go_sem, simprocAttr, hst2, hnu, fid_lit, lit_fid]; done)
              all_goals try (simp (disch := omega) only [go_sem, simprocAttr, hst2, hnu, hi0, fid_lit, lit_fid]; done)
            · omega
        · have : b = N := by omega
          subst this
          have hsu : ∀ i, i ≠ u → ((i < u + 1) = (i < u)) := fun i h => propext (by omega)
          repeat' first | refine pw_seq ?_ | refine pw_skip ?_ | refine pw_ret ?_ | refine pw_exit ?_ | refine pw_block ?_ | refine pw_region (fun _ => false) hmix ?_ | (refine wpG_split rfl rfl (fun hc => ?_) (fun hc => ?_) <;> try simp only [hcL, reduceCtorEq] at hc) | (refine pw_cond _ rfl rfl (fun hc => ?_) (fun hc => ?_) <;> (try simp only [hcL, reduceCtorEq] at hc) <;> try (exfalso; omega)) | simp (maxSteps := 1000000) (disch := omega) only [go_sem, simprocAttr] | apply And.intro | omega | decide +kernel
          refine ⟨u + 1, ?_, eF [] [] _ _ _ (by refine ⟨?_, ?_⟩ <;> (repeat' first | exact List.forall_mem_nil _ | refine List.forall_mem_cons.2 ⟨(by first | rfl | (simp (disch := omega) only [go_sem, simprocAttr, inL]; first | done | omega | (congr 1; done))), ?_⟩); done) ?_, ?_⟩
          · omega
          · repeat' first | exact List.forall_mem_nil _ | refine List.forall_mem_cons.2 ⟨?_, ?_⟩
            all_goals refine ⟨_, (by first | rfl | (simp (disch := omega) only [go_sem, simprocAttr, hnu, hsu, Nat.lt_add_one, mixR_full]; done) | (simp (disch := omega) only [go_sem, simprocAttr, hnu, hsu, Nat.lt_add_one, mixR_full]; rfl)), fun i hi => ?_⟩
            all_goals dsimp only at hi ⊢
            all_goals rcases Decidable.em (i = u) with rfl | hi0
            all_goals try (exfalso; omega)
            all_goals try (simp (disch := omega) only [go_sem, simprocAttr, hnu, hsu, Nat.lt_add_one, mixR_full, fid_lit, lit_fid]; done)
            all_goals try (simp (disch := omega) only [go_sem, simprocAttr, hnu, hsu, Nat.lt_add_one, mixR_full, hi0, fid_lit, lit_fid]; done)
          · omega
    · have : N = u := by omega
      subst this
      try dsimp only
      obtain ⟨F, hF⟩ : ∃ F : List D, F = [D.int ((i : Int) - 1), D.int ((i : Int) + 1)] := ⟨_, rfl⟩
      have hFl : F.length = 2 := by rw [hF]; rfl
      have hFx : ∀ t, t < 2 → F[t]? = some (D.int (fixT i t)) := fun t ht => by
        rw [hF]
        rcases t with _ | _ | t
        · rfl
        · rfl
        · omega
      repeat' first | refine pw_seq ?_ | refine pw_skip ?_ | refine pw_ret ?_ | refine pw_exit ?_ | refine pw_block ?_ | refine pw_region (fun _ => false) hmix ?_ | (refine wpG_split rfl rfl (fun hc => ?_) (fun hc => ?_) <;> try simp only [hcL, reduceCtorEq] at hc) | (refine pw_cond _ rfl rfl (fun hc => ?_) (fun hc => ?_) <;> (try simp only [hcL, reduceCtorEq] at hc) <;> try (exfalso; omega)) | simp (maxSteps := 1000000) (disch := omega) only [go_sem, simprocAttr] | apply And.intro | omega | decide +kernel
      refine pw_loopF (κ := Nat) (fun (t : Nat) => t ≤ 2) (fun (t : Nat) => [(3, .int i), (4, .ptr 4 0 0 0), (10, .ref 30 1 0 N N), (77, .d (.sl F)), (78, .int 2), (79, .int t)]) (fun (t : Nat) => [⟨1, 30, 1, N, fun k => (rowG (A t k) N).map D.int⟩]) (fun (t : Nat) => [(4, .cells [.int n, .d (listsD ls), .d (arcsD ar), .d (listsD cs)])]) (fun (t : Nat) => 2 - t) 0 ?_ ?_ ?_
      · exact Nat.zero_le _
      · refine eF [] [] _ _ _ (by refine ⟨?_, ?_⟩ <;> (repeat' first | exact List.forall_mem_nil _ | refine List.forall_mem_cons.2 ⟨(by first | rfl | (simp (disch := omega) only [go_sem, simprocAttr, inL, hF]; first | done | omega | (congr 1; done))), ?_⟩); done) ?_
        repeat' first | exact List.forall_mem_nil _ | refine List.forall_mem_cons.2 ⟨?_, ?_⟩
        all_goals refine ⟨_, (by first | rfl | (simp (disch := omega) only [go_sem, simprocAttr, hiN]; done) | (simp (disch := omega) only [go_sem, simprocAttr, hiN]; rfl)), fun i hi => ?_⟩
        all_goals dsimp only at hi ⊢
        all_goals try (exfalso; omega)
        all_goals try (simp (disch := omega) only [go_sem, simprocAttr, hiN, fid_lit, lit_fid]; done)
      · intro t ht
        rcases Nat.lt_or_ge t 2 with hlt2 | hge2
        · have hx := hFx t hlt2
          have hM := hMs t
          have hsq := hMsq t
          have hml := hMlen t
          have hS := haccS t
          generalize hR : Q t = R at *
          repeat' first | refine pw_seq ?_ | refine pw_skip ?_ | refine pw_ret ?_ | refine pw_exit ?_ | refine pw_block ?_ | refine pw_region (fun _ => false) hmix ?_ | (refine rc (hM) rfl ?_ ?_; (· first | rfl | (simp (disch := omega) only [go_sem, simprocAttr, hx, List.append_eq]; done))) | (refine wpG_split rfl rfl (fun hc => ?_) (fun hc => ?_) <;> try simp only [hcL, reduceCtorEq] at hc) | (refine pw_cond _ rfl rfl (fun hc => ?_) (fun hc => ?_) <;> (try simp only [hcL, reduceCtorEq] at hc) <;> try (exfalso; omega)) | simp (maxSteps := 1000000) (disch := omega) only [go_sem, simprocAttr, hx, List.append_eq] | apply And.intro | omega | decide +kernel
          refine pw_loopF (κ := Nat) (fun (c : Nat) => c ≤ R.length) (fun (c : Nat) => [(3, .int i), (4, .ptr 4 0 0 0), (10, .ref 30 1 0 N N), (77, .d (.sl F)), (78, .int 2), (79, .int t), (86, .d (listsD R)), (87, .int R.length), (88, .int c)]) (fun (c : Nat) => [⟨1, 30, 1, N, fun k => if k < c then (rowG (A (t + 1) k) N).map D.int else (rowG (A t k) N).map D.int⟩]) (fun (c : Nat) => [(4, .cells [.int n, .d (listsD ls), .d (arcsD ar), .d (listsD cs)])]) (fun (c : Nat) => R.length - c) 0 ?_ ?_ ?_
          · exact Nat.zero_le _
          · refine eF [] [] _ _ _ (by refine ⟨?_, ?_⟩ <;> (repeat' first | exact List.forall_mem_nil _ | refine List.forall_mem_cons.2 ⟨(by first | rfl | (simp (disch := omega) only [go_sem, simprocAttr, inL, hFl]; first | done | omega | (congr 1; done))), ?_⟩); done) ?_
            repeat' first | exact List.forall_mem_nil _ | refine List.forall_mem_cons.2 ⟨?_, ?_⟩
            all_goals refine ⟨_, (by first | rfl | (simp (disch := omega) only [go_sem, simprocAttr, Nat.not_lt_zero]; done) | (simp (disch := omega) only [go_sem, simprocAttr, Nat.not_lt_zero]; rfl)), fun i hi => ?_⟩
            all_goals dsimp only at hi ⊢
            all_goals try (exfalso; omega)
            all_goals try (simp (disch := omega) only [go_sem, simprocAttr, Nat.not_lt_zero, fid_lit, lit_fid]; done)
          · intro c hc0
            rcases Nat.lt_or_ge c R.length with hlc | hgc
            · have hRN : R.length = N := by omega
              obtain ⟨r, hr⟩ := get_some hlc
              have hrl := hsq.row r (List.mem_of_getElem? hr)
              have hrN : r.length = N := by omega
              have hnu : ¬ c < c := by omega
              repeat' first | refine pw_seq ?_ | refine pw_skip ?_ | refine pw_ret ?_ | refine pw_exit ?_ | refine pw_block ?_ | refine pw_region (fun _ => false) hmix ?_ | (refine wpG_split rfl rfl (fun hc => ?_) (fun hc => ?_) <;> try simp only [hcL, reduceCtorEq] at hc) | (refine pw_cond _ rfl rfl (fun hc => ?_) (fun hc => ?_) <;> (try simp only [hcL, reduceCtorEq] at hc) <;> try (exfalso; omega)) | simp (maxSteps := 1000000) (disch := omega) only [go_sem, simprocAttr, hr, hrN] | apply And.intro | omega | decide +kernel
              refine pw_loopF (κ := Nat) (fun (b : Nat) => b ≤ N) (fun (b : Nat) => [(3, .int i), (4, .ptr 4 0 0 0), (10, .ref 30 1 0 N N), (19, .int c), (77, .d (.sl F)), (78, .int 2), (79, .int t), (86, .d (listsD R)), (87, .int R.length), (88, .int c), (93, .d (intsD r)), (94, .int N), (95, .int b)]) (fun (b : Nat) => [⟨1, 30, 1, N, fun k => if k < c then (rowG (A (t + 1) k) N).map D.int else if k = c then (mixR (A t c) (A (t + 1) c) N b).map D.int else (rowG (A t k) N).map D.int⟩]) (fun (b : Nat) => [(4, .cells [.int n, .d (listsD ls), .d (arcsD ar), .d (listsD cs)])]) (fun (b : Nat) => N - b) 0 ?_ ?_ ?_
              · exact Nat.zero_le _
              · refine eF [] [] _ _ _ (by refine ⟨?_, ?_⟩ <;> (repeat' first | exact List.forall_mem_nil _ | refine List.forall_mem_cons.2 ⟨(by first | rfl | (simp (disch := omega) only [go_sem, simprocAttr, inL, hrN]; first | done | omega | (congr 1; done))), ?_⟩); done) ?_
                repeat' first | exact List.forall_mem_nil _ | refine List.forall_mem_cons.2 ⟨?_, ?_⟩
                all_goals refine ⟨_, (by first | rfl | (simp (disch := omega) only [go_sem, simprocAttr, hnu, mixR_zero]; done) | (simp (disch := omega) only [go_sem, simprocAttr, hnu, mixR_zero]; rfl)), fun i hi => ?_⟩
                all_goals dsimp only at hi ⊢
                all_goals rcases Decidable.em (i = c) with rfl | hi0
                all_goals try (exfalso; omega)
                all_goals try (simp (disch := omega) only [go_sem, simprocAttr, hnu, mixR_zero, fid_lit, lit_fid]; done)
                all_goals try (simp (disch := omega) only [go_sem, simprocAttr, hnu, mixR_zero, hi0, fid_lit, lit_fid]; done)
              · intro b hb
                have hfl2 := mixR_len (A t c) (A (t + 1) c) N b
                rcases Nat.lt_or_ge b N with hlb | hgb
                · obtain ⟨p, hp, _, hpv, g1, g2⟩ := hsq.get hlc (show b < R.length by omega)
                  rw [hr, Option.some.injEq] at hp
                  rw [← hp] at hpv
                  have hcell := hS c b
                  have ha := hacc t c b
                  have hg : (mixR (A t c) (A (t + 1) c) N b)[b]? = some (A t c b) := mixR_get hlb
                  have hst : (mixR (A t c) (A (t + 1) c) N b).set b (A (t + 1) c b) = mixR (A t c) (A (t + 1) c) N (b + 1) := mixR_step hlb
                  rw [hcell] at hst
                  refine pw_ent _ (ent_bor _ _ [4, 30] 30 c 900 1 1 N (by first | rfl | (simp (disch := omega) only [go_sem, simprocAttr, hnu, hfl2]; done) | (simp (disch := omega) only [go_sem, simprocAttr, hnu, hfl2]; rfl)) (by first | (simp (disch := omega) only [go_sem, simprocAttr, hnu, hfl2]; done) | (simp (disch := omega) only [go_sem, simprocAttr, hnu, hfl2]; rfl)) (by first | (simp (disch := omega) only [go_sem, simprocAttr, hnu, hfl2]; done) | (simp (disch := omega) only [go_sem, simprocAttr, hnu, hfl2]; rfl)) (fun i hi hne => by simp (disch := omega) only [go_sem, simprocAttr, hne, hnu, hfl2]; (repeat' split) <;> exact .ref _ _ _ _ _ ⟨by simp (disch := omega) only [go_sem, simprocAttr, hne, hnu, hfl2], by simp (disch := omega) only [go_sem, simprocAttr, hne, hnu, hfl2]⟩) (by (repeat' first | refine ab_nil ?_ | exact ab_obOf (ids := [4, 30]) rfl rfl (Nat.le_of_ble_eq_true rfl) | refine ab_hole ?_ | refine ab_row ?_ | refine ab_dead ?_ | refine ab_self ?_ | refine ab_self_fam ?_ | refine ab_fam (by dsimp only; omega) (by dsimp only; omega) (by omega) (by omega) (Nat.le_of_ble_eq_true rfl) ?_); done) rfl rfl rfl) ?_
                  repeat' first | refine pw_seq ?_ | refine pw_skip ?_ | refine pw_ret ?_ | refine pw_exit ?_ | refine pw_block ?_ | refine pw_region (fun _ => false) hmix ?_ | (refine wpG_split rfl rfl (fun hc => ?_) (fun hc => ?_) <;> try simp only [hcL, reduceCtorEq] at hc) | (refine pw_cond _ rfl rfl (fun hc => ?_) (fun hc => ?_) <;> (try simp only [hcL, reduceCtorEq] at hc) <;> try (exfalso; omega)) | simp (maxSteps := 1000000) (disch := omega) only [go_sem, simprocAttr, hr, hrN, hpv, hg, hfl2, hnu] | apply And.intro | omega | decide +kernel
                  refine ⟨b + 1, ?_, eF [(fid 1 c, 900)] [] _ _ _ (by refine ⟨?_, ?_⟩ <;> (repeat' first | exact List.forall_mem_nil _ | refine List.forall_mem_cons.2 ⟨(by first | rfl | (simp (disch := omega) only [go_sem, simprocAttr, inL]; first | done | omega | (congr 1; done))), ?_⟩); done) ?_, ?_⟩
                  · omega
                  · repeat' first | exact List.forall_mem_nil _ | refine List.forall_mem_cons.2 ⟨?_, ?_⟩
                    all_goals refine ⟨_, (by first | rfl | (simp (disch := omega) only [go_sem, simprocAttr, hst.symm, List.map_set, List.length_set, List.length_map, hfl2, hnu]; done) | (simp (disch := omega) only [go_sem, simprocAttr, hst.symm, List.map_set, List.length_set, List.length_map, hfl2, hnu]; rfl)), fun i hi => ?_⟩
                    all_goals dsimp only at hi ⊢
                    all_goals rcases Decidable.em (i = c) with rfl | hi0
                    all_goals try (exfalso; omega)
                    all_goals try (simp (disch := omega) only [go_sem, simprocAttr, hst.symm, List.map_set, List.length_set, List.length_map, hfl2, hnu, fid_lit, lit_fid]; done)
                    all_goals try (simp (disch := omega) only [go_sem, simprocAttr, hst.symm, List.map_set, List.length_set, List.length_map, hfl2, hnu, hi0, fid_lit, lit_fid]; done)
                  · omega
                · have : N = b := by omega
                  subst this
                  have hsu : ∀ i, i ≠ c → ((i < c + 1) = (i < c)) := fun i h => propext (by omega)
                  repeat' first | refine pw_seq ?_ | refine pw_skip ?_ | refine pw_ret ?_ | refine pw_exit ?_ | refine pw_block ?_ | refine pw_region (fun _ => false) hmix ?_ | (refine wpG_split rfl rfl (fun hc => ?_) (fun hc => ?_) <;> try simp only [hcL, reduceCtorEq] at hc) | (refine pw_cond _ rfl rfl (fun hc => ?_) (fun hc => ?_) <;> (try simp only [hcL, reduceCtorEq] at hc) <;> try (exfalso; omega)) | simp (maxSteps := 1000000) (disch := omega) only [go_sem, simprocAttr] | apply And.intro | omega | decide +kernel
                  refine ⟨c + 1, ?_, eF [] [] _ _ _ (by refine ⟨?_, ?_⟩ <;> (repeat' first | exact List.forall_mem_nil _ | refine List.forall_mem_cons.2 ⟨(by first | rfl | (simp (disch := omega) only [go_sem, simprocAttr, inL]; first | done | omega | (congr 1; done))), ?_⟩); done) ?_, ?_⟩
                  · omega
                  · repeat' first | exact List.forall_mem_nil _ | refine List.forall_mem_cons.2 ⟨?_, ?_⟩
                    all_goals refine ⟨_, (by first | rfl | (simp (disch := omega) only [go_sem, simprocAttr, hnu, hsu, Nat.lt_add_one, mixR_full]; done) | (simp (disch := omega) only [go_sem, simprocAttr, hnu, hsu, Nat.lt_add_one, mixR_full]; rfl)), fun i hi => ?_⟩
                    all_goals dsimp only at hi ⊢
                    all_goals rcases Decidable.em (i = c) with rfl | hi0
                    all_goals try (exfalso; omega)
                    all_goals try (simp (disch := omega) only [go_sem, simprocAttr, hnu, hsu, Nat.lt_add_one, mixR_full, fid_lit, lit_fid]; done)
                    all_goals try (simp (disch := omega) only [go_sem, simprocAttr, hnu, hsu, Nat.lt_add_one, mixR_full, hi0, fid_lit, lit_fid]; done)
                  · omega
            · have : R.length = c := by omega
              subst this
              repeat' first | refine pw_seq ?_ | refine pw_skip ?_ | refine pw_ret ?_ | refine pw_exit ?_ | refine pw_block ?_ | refine pw_region (fun _ => false) hmix ?_ | (refine wpG_split rfl rfl (fun hc => ?_) (fun hc => ?_) <;> try simp only [hcL, reduceCtorEq] at hc) | (refine pw_cond _ rfl rfl (fun hc => ?_) (fun hc => ?_) <;> (try simp only [hcL, reduceCtorEq] at hc) <;> try (exfalso; omega)) | simp (maxSteps := 1000000) (disch := omega) only [go_sem, simprocAttr] | apply And.intro | omega | decide +kernel
              rcases hml with hml | hml
              · have hsame : ∀ k, rowG (A (t + 1) k) N = rowG (A t k) N := fun k => rowG_congr fun v _ => by
                  rw [hS, cellAt, lstN_out (by omega)]; simp [at0]
                refine ⟨t + 1, ?_, eF [] [] _ _ _ (by refine ⟨?_, ?_⟩ <;> (repeat' first | exact List.forall_mem_nil _ | refine List.forall_mem_cons.2 ⟨(by first | rfl | (simp (disch := omega) only [go_sem, simprocAttr, inL]; first | done | omega | (congr 1; done))), ?_⟩); done) ?_, ?_⟩
                · omega
                · repeat' first | exact List.forall_mem_nil _ | refine List.forall_mem_cons.2 ⟨?_, ?_⟩
                  all_goals refine ⟨_, (by first | rfl | (simp (disch := omega) only [go_sem, simprocAttr, hml, Nat.not_lt_zero, hsame]; done) | (simp (disch := omega) only [go_sem, simprocAttr, hml, Nat.not_lt_zero, hsame]; rfl)), fun i hi => ?_⟩
                  all_goals dsimp only at hi ⊢
                  all_goals try (exfalso; omega)
                  all_goals try (simp (disch := omega) only [go_sem, simprocAttr, hml, Nat.not_lt_zero, hsame, fid_lit, lit_fid]; done)
                · omega
              · have hRN : R.length = N := by omega
                refine ⟨t + 1, ?_, eF [] [] _ _ _ (by refine ⟨?_, ?_⟩ <;> (repeat' first | exact List.forall_mem_nil _ | refine List.forall_mem_cons.2 ⟨(by first | rfl | (simp (disch := omega) only [go_sem, simprocAttr, inL]; first | done | omega | (congr 1; done))), ?_⟩); done) ?_, ?_⟩
                · omega
                · repeat' first | exact List.forall_mem_nil _ | refine List.forall_mem_cons.2 ⟨?_, ?_⟩
                  all_goals refine ⟨_, (by first | rfl | (simp (disch := omega) only [go_sem, simprocAttr, hRN, hiN]; done) | (simp (disch := omega) only [go_sem, simprocAttr, hRN, hiN]; rfl)), fun i hi => ?_⟩
                  all_goals dsimp only at hi ⊢
                  all_goals try (exfalso; omega)
                  all_goals try (simp (disch := omega) only [go_sem, simprocAttr, hRN, hiN, fid_lit, lit_fid]; done)
                · omega
        · have : t = 2 := by omega
          subst this
          try dsimp only
          refine pw_ent _ (ent_famRow _ _ _ _ ⟨nodup_of rfl, nodup_of rfl, (by (repeat' first | exact List.forall_mem_nil _ | refine List.forall_mem_cons.2 ⟨⟨Nat.le_of_ble_eq_true rfl, Nat.le_of_ble_eq_true rfl, by dsimp only; omega⟩, ?_⟩); done)⟩ rfl [4, 30] rfl rfl rfl rfl) ?_
          repeat' first | refine pw_seq ?_ | refine pw_skip ?_ | refine pw_ret ?_ | refine pw_exit ?_ | refine pw_block ?_ | refine pw_region (fun _ => false) hmix ?_ | (refine wpG_split rfl rfl (fun hc => ?_) (fun hc => ?_) <;> try simp only [hcL, reduceCtorEq] at hc) | (refine pw_cond _ rfl rfl (fun hc => ?_) (fun hc => ?_) <;> (try simp only [hcL, reduceCtorEq] at hc) <;> try (exfalso; omega)) | simp (maxSteps := 1000000) (disch := omega) only [go_sem, simprocAttr] | apply And.intro | omega | decide +kernel
          refine ret_ref (o := 30) rfl rfl (by simp) ?_
          rw [List.take_of_length_le (by simp), sqM, List.map_map]
          rfl
end Go.Proofs.Ytelghbnlceeecaa
namespace Go.Proofs.Ytelghbnlceeecaa
open Go Go.PS Go.Proofs
open Go.Bd (ix invF invN comN refN refB)
set_option maxRecDepth 100000
attribute [local irreducible] wpRun wpG CallsTo CallsM

end Go.Proofs.Ytelghbnlceeecaa
namespace Go.Proofs.Ytelghbnlceeecaa
open Go Go.PS Go.Proofs
open Go.Bd (ix invF invN comN sumC sumC_add sumC_mul invC Part bestF)

theorem cellAt_sq {g : Nat → Nat → Int} {n u v : Nat} (hu : u < n) (hv : v < n) : cellAt (sqM g n) u v = g u v := by
  rw [cellAt, sqM, lstN, List.getElem?_map, List.getElem?_range hu]
  simp only [Option.map_some, Option.getD_some]
  rw [at0, Int.toNat_natCast, rowG_get hv]; rfl
theorem stM_len (a : Lv) (old y : List Int) (w : Int) (i : Nat) : (stM a old y w i).length = y.length := by simp [stM, sqM]
/-- The value of a place of a layer. -/
def yG (y : List Int) (k : Nat) : Int := (y[k]?).getD 0
theorem wCell_inv (old y : List Int) (w : Int) (u v : Nat) : wCell old y w u v = w * invC old (yG y) u v := by
  have e : ∀ k : Nat, at0 y k = yG y k := fun k => by rw [at0, Int.toNat_natCast]; rfl
  rw [wCell, invC, e, e]
  by_cases h1 : yG y u ∈ old <;> by_cases h2 : yG y v ∈ old
  · rw [ix_nat h1, ix_nat h2]
    by_cases h3 : old.idxOf (yG y v) < old.idxOf (yG y u)
    · rw [if_pos ⟨by omega, by omega⟩, if_pos ⟨h1, h2, h3⟩, Int.mul_one]
    · rw [if_neg (fun h => h3 (by omega)), if_neg (fun h => h3 h.2.2), Int.mul_zero]
  · rw [if_neg (fun h => by
      have := h.1
      rw [ix, if_neg h2] at this; omega), if_neg (fun h => h2 h.2.1), Int.mul_zero]
  · rw [if_neg (fun h => by
      have := h.2
      rw [ix_nat h2, ix, if_neg h1] at this; omega), if_neg (fun h => h1 h.1), Int.mul_zero]
  · rw [if_neg (fun h => by
      have := h.1
      rw [ix, if_neg h2] at this; omega), if_neg (fun h => h1 h.1), Int.mul_zero]
theorem accC_two (a : Lv) (old y : List Int) (w : Int) (i : Nat) (u v : Nat) : accC a old y w i 2 u v = w * invC old (yG y) u v + bothC a i u v := by
  rw [← wCell_inv]
  show wCell old y w u v + cellAt (MatrixF a i ((i : Int) - 1)) u v + cellAt (MatrixF a i ((i : Int) + 1)) u v = _
  rw [bothC]; omega
/-- The sum of a layer's matrix over an order of its places. -/
theorem stM_sum (a : Lv) (old y : List Int) (w : Int) (i : Nat) {o : List Nat} (ho : Part y.length 0 o) :
    sumC (cellAt (stM a old y w i)) o = w * sumC (invC old (yG y)) o + sumC (bothC a i) o := by
  rw [← sumC_mul, ← sumC_add]
  refine sumC_congr ho.nd fun u hu v hv _ => ?_
  rw [stM, cellAt_sq (ho.lt u hu) (ho.lt v hv), accC_two]
theorem layer_nodup {a : Lv} (hv : validF a = true) {i : Nat} {y : List Int} (hy : a.2.1[i]? = some y) : y.Nodup :=
  (List.pairwise_flatten.1 (valid_nodup hv)).1 y (List.mem_of_getElem? hy)
theorem permL_perm {y : List Int} {o : List Nat} (hn : y.Nodup) (ho : Part y.length 0 o) : (permL y o).Perm y :=
  (List.perm_ext_iff_of_nodup (permL_nodup hn ho) hn).2 fun _ => permL_mem ho
theorem reorder_put {a : Lv} (hv : validF a = true) {i : Nat} {y : List Int} {o : List Nat} (hy : a.2.1[i]? = some y) (ho : Part y.length 0 o) : reorderF a i (permL y o) = (putL a i (permL y o), 0) := by
  have hil := (List.getElem?_eq_some_iff.1 hy).1
  rw [reorderF, if_neg (by rw [hv]; decide), if_neg (by omega), Int.toNat_natCast, hy, Option.getD_some, if_neg (by rw [sortL_congr (permL_perm (layer_nodup hv hy) ho)]; simp)]
  rfl
theorem put_valid {a : Lv} (hv : validF a = true) {i : Nat} {y : List Int} {o : List Nat} (hy : a.2.1[i]? = some y) (ho : Part y.length 0 o) : validF (putL a i (permL y o)) = true := by
  have h := reorder_put hv hy ho
  have := reorder_valid (a := a) (i := i) (o := permL y o) (by rw [h])
  rw [h] at this; exact this
theorem put_self {a : Lv} {i : Nat} {y : List Int} (hy : a.2.1[i]? = some y) : putL a i y = a := by
  obtain ⟨hl, he⟩ := List.getElem?_eq_some_iff.1 hy
  rw [putL, ← he, List.set_getElem_self]
/-- What another order of a layer changes. -/
theorem put_cost {a : Lv} (hv : validF a = true) (old : List (List Int)) {w : Int} (hw : 0 ≤ w ∧ w ≤ 1000) {i : Nat} {y : List Int} {o : List Nat} (hy : a.2.1[i]? = some y) (ho : Part y.length 0 o) :
    costF (putL a i (permL y o)) old w - costF a old w = sumC (cellAt (stM a (lstN old i) y w i)) o - sumC (cellAt (stM a (lstN old i) y w i)) (List.range y.length) := by
  have hv' := put_valid hv hy ho
  have hil := (List.getElem?_eq_some_iff.1 hy).1
  have hT := put_total hv hv' hy ho
  have e1 : costF a old w = TotalF a + w * invS a old a.2.1.length := by rw [costF, if_pos (by rw [okW, hv, decide_eq_true hw]; rfl)]
  have e2 : costF (putL a i (permL y o)) old w = TotalF (putL a i (permL y o)) + w * invS (putL a i (permL y o)) old a.2.1.length := by
    rw [costF, if_pos (by rw [okW, hv', decide_eq_true hw]; rfl)]
    have : (putL a i (permL y o)).2.1.length = a.2.1.length := List.length_set
    rw [this]
  have hyn := layer_nodup hv hy
  have e3 : ∀ n, invS (putL a i (permL y o)) old n = invS a old n + (if i < n then (invF (lstN old i) (permL y o) : Int) - invF (lstN old i) y else 0) := by
    intro n
    induction n with
    | zero => simp [invS, sumZ]
    | succ n ih =>
      have s1 : ∀ b : Lv, invS b old (n + 1) = invS b old n + (invF (lstN old n) (lstN b.2.1 n) : Int) := fun _ => rfl
      rw [s1, s1, ih]
      have hl : (putL a i (permL y o)).2.1 = a.2.1.set i (permL y o) := rfl
      by_cases c : n = i
      · subst c
        have hs : lstN (a.2.1.set n (permL y o)) n = permL y o := by rw [lstN, List.getElem?_set, if_pos rfl, if_pos hil]; rfl
        rw [if_neg (by omega), if_pos (by omega), hl, lstN_at hy, hs]
        omega
      · have : lstN (putL a i (permL y o)).2.1 n = lstN a.2.1 n := by rw [hl, lstN, lstN, List.getElem?_set, if_neg (fun h => c h.symm)]
        rw [this]
        by_cases c2 : i < n
        · rw [if_pos c2, if_pos (by omega)]; omega
        · rw [if_neg c2, if_neg (by omega)]; omega
  have e4 : (invF (lstN old i) (permL y o) : Int) = sumC (invC (lstN old i) (yG y)) o := by
    have h := Go.Bd.invF_sum (lstN old i) (yG y) (l := o) (by
      have := permL_nodup hyn ho
      exact this)
    exact h
  have e5 : (invF (lstN old i) y : Int) = sumC (invC (lstN old i) (yG y)) (List.range y.length) := by
    have hr : (List.range y.length).map (yG y) = y := permL_range y
    have h := Go.Bd.invF_sum (lstN old i) (yG y) (l := List.range y.length) (by rw [hr]; exact hyn)
    rw [hr] at h; exact h
  rw [stM_sum _ _ _ _ _ ho, stM_sum _ _ _ _ _ (range_part _), e1, e2, e3, if_pos hil, Int.mul_add, Int.mul_sub, e4, e5]
  omega
end Go.Proofs.Ytelghbnlceeecaa
namespace Go.Proofs.Ytelghbnlceeecaa
open Go Go.PS Go.Proofs
open Go.Bd (sm ix invF invN comN sumC Part bestF)
set_option maxRecDepth 100000
attribute [local irreducible] wpRun wpG CallsTo CallsM

theorem cell_small (a : Lv) (i f : Int) (u v : Nat) : cellAt (MatrixF a i f) u v ≤ ((a.2.2.1.length * a.2.2.1.length : Nat) : Int) := by
  have hz : cellAt [] u v = 0 := by simp [cellAt, lstN, at0]
  rw [MatrixF]
  split
  · by_cases hu : u < (endsF a.2.1 a.2.2.1 i f (lenAt a i)).length
    · by_cases hv : v < (endsF a.2.1 a.2.2.1 i f (lenAt a i)).length
      · rw [cellAt_mat hu hv, cellF]
        split
        · omega
        · have hl : ∀ k, (lstN (endsF a.2.1 a.2.2.1 i f (lenAt a i)) k).length ≤ a.2.2.1.length := fun k => by
            by_cases hk : k < lenAt a i
            · rw [endsF, lstN, List.getElem?_map, List.getElem?_range hk]
              exact endsN_len ..
            · rw [lstN_out (by simp [endsF]; omega)]; exact Nat.zero_le _
          have := Nat.le_trans (behindF_le _ _) (Nat.mul_le_mul (hl u) (hl v))
          omega
      · have : cellAt (matF (endsF a.2.1 a.2.2.1 i f (lenAt a i))) u v = 0 := by
          rw [cellAt, matF, lstN, List.getElem?_map, List.getElem?_range hu]
          simp only [Option.map_some, Option.getD_some]
          rw [at0, Int.toNat_natCast, List.getElem?_eq_none (by simp; omega)]; rfl
        omega
    · have : cellAt (matF (endsF a.2.1 a.2.2.1 i f (lenAt a i))) u v = 0 := by
        rw [cellAt, lstN_out (by rw [matF]; simp; omega)]; simp [at0]
      omega
  · rw [hz]; omega
theorem stM_ok {a : Lv} {old y : List Int} {w : Int} {i : Nat} (hw : 0 ≤ w ∧ w ≤ 1000) (har : a.2.2.1.length ≤ 700) (hy : y.length ≤ 8) : okM (stM a old y w i) = true := by
  refine sq_ok ⟨by rw [stM_len]; omega, fun p hp => ?_, fun p hp x hx => ?_⟩ (by rw [stM_len]; exact hy)
  · rw [stM_len]
    obtain ⟨u, _, rfl⟩ := List.mem_map.1 hp
    exact rowG_len _ _
  · obtain ⟨u, _, rfl⟩ := List.mem_map.1 hp
    obtain ⟨v, _, rfl⟩ := List.mem_map.1 hx
    have hb : a.2.2.1.length * a.2.2.1.length ≤ 490000 := Nat.le_trans (Nat.mul_le_mul har har) (by decide)
    have h1 := cell_small a i ((i : Int) - 1) u v
    have h2 := cell_small a i ((i : Int) + 1) u v
    have h3 := (accC_le a old y hw i 2 u v).1
    have h4 := (accC_le a old y hw i 0 u v).2
    have e : accC a old y w i 2 u v = accC a old y w i 0 u v + cellAt (MatrixF a i ((i : Int) - 1)) u v + cellAt (MatrixF a i ((i : Int) + 1)) u v := rfl
    omega
theorem bestAll_part (m : List (List Int)) : Part m.length 0 (bestAll m).1 ∧ (bestAll m).2 = sumC (cellAt m) (bestAll m).1 := by
  obtain ⟨h1, _, h3⟩ := Go.Bd.best_of (cellAt m) m.length [] (part_nil _) _ (bestAll_eq m)
  exact ⟨h1, h3⟩
def bestLay (a : Lv) (old : List (List Int)) (w : Int) (i : Nat) : Lv :=
  if (bestAll (stM a (lstN old i) (lstN a.2.1 i) w i)).2 < sumC (cellAt (stM a (lstN old i) (lstN a.2.1 i) w i)) (List.range (lstN a.2.1 i).length) then putL a i (permL (lstN a.2.1 i) (bestAll (stM a (lstN old i) (lstN a.2.1 i) w i)).1) else a
def layerF (a : Lv) (old : List (List Int)) (w i : Int) : Lv × Int :=
  if okW a w = false then (lv0, 1) else if i < 0 ∨ (a.2.1.length : Int) ≤ i then (lv0, 3) else if 8 < (lstN a.2.1 i.toNat).length then (lv0, 2) else (bestLay a old w i.toNat, 0)
/-- A copy of a list, own. -/
theorem cloneO_spec (l : List Int) (hn : l.length ≤ 1000000) : CallsM Try.prog 55 [.d (intsD l)] [(2000, .dead)] (.ref 2000 1 0 l.length l.length) [(2000, .row 1 (l.map D.int))] := by
  rcases Decidable.em (l = []) with rfl | hl
  · refine callsM_of Try.func55 rfl (by decide +kernel) (Nat.le_of_ble_eq_true rfl) rfl (nodup_of rfl) rfl rfl rfl ?_
    intro B X w0
    refine pw_post ?_
    repeat' first | refine pw_seq ?_ | refine pw_skip ?_ | refine pw_ret ?_ | refine pw_exit ?_ | refine pw_block ?_ | refine pw_region (fun _ => false) hmix ?_ | (refine wpG_split rfl rfl (fun hc => ?_) (fun hc => ?_) <;> try simp only [hcL, reduceCtorEq] at hc) | (refine pw_cond _ rfl rfl (fun hc => ?_) (fun hc => ?_) <;> (try simp only [hcL, reduceCtorEq] at hc) <;> try (exfalso; omega)) | simp (maxSteps := 1000000) (disch := omega) only [go_sem, simprocAttr] | apply And.intro | omega | decide +kernel
    refine pw_anyb 4 rfl ?_
    intro b
    cases b
    · repeat' first | refine pw_seq ?_ | refine pw_skip ?_ | refine pw_ret ?_ | refine pw_exit ?_ | refine pw_block ?_ | refine pw_region (Nat.beq 5) hmix ?_ | (refine wpG_split rfl rfl (fun hc => ?_) (fun hc => ?_) <;> try simp only [hcL, reduceCtorEq] at hc) | (refine pw_cond _ rfl rfl (fun hc => ?_) (fun hc => ?_) <;> (try simp only [hcL, reduceCtorEq] at hc) <;> try (exfalso; omega)) | simp (maxSteps := 1000000) (disch := omega) only [go_sem, simprocAttr, roomy] | apply And.intro | omega | decide +kernel
      refine ⟨_, entL_iff.1 (eL [(2000, 7)] [(2, .ref 2000 1 0 0 0)] [(2000, .row 1 [])] (by refine ⟨?_, ?_⟩ <;> (repeat' first | exact List.forall_mem_nil _ | refine List.forall_mem_cons.2 ⟨(by first | rfl | (simp (disch := omega) only [go_sem, simprocAttr, inL]; first | done | omega | (congr 1; done))), ?_⟩); done)), ?_⟩
      exact ⟨rfl, List.forall_mem_cons.2 ⟨rfl, List.forall_mem_nil _⟩⟩
    · repeat' first | refine pw_seq ?_ | refine pw_skip ?_ | refine pw_ret ?_ | refine pw_exit ?_ | refine pw_block ?_ | refine pw_region (fun _ => false) hmix ?_ | (refine wpG_split rfl rfl (fun hc => ?_) (fun hc => ?_) <;> try simp only [hcL, reduceCtorEq] at hc) | (refine pw_cond _ rfl rfl (fun hc => ?_) (fun hc => ?_) <;> (try simp only [hcL, reduceCtorEq] at hc) <;> try (exfalso; omega)) | simp (maxSteps := 1000000) (disch := omega) only [go_sem, simprocAttr] | apply And.intro | omega | decide +kernel
      refine ⟨_, Ent.trans (ent_nil 2 7 1 rfl rfl) (entL_iff.1 (eL [(2000, 7)] [(2, .ref 2000 1 0 0 0)] [(2000, .row 1 [])] (by constructor <;> (repeat' first | exact List.forall_mem_nil _ | refine List.forall_mem_cons.2 ⟨rfl, ?_⟩)))), ?_⟩
      exact ⟨rfl, List.forall_mem_cons.2 ⟨rfl, List.forall_mem_nil _⟩⟩
  · have he : (l.map D.int).isEmpty = false := by simpa using hl
    have hpos : 0 < l.length := List.length_pos_iff.2 hl
    refine callsM_of Try.func55 rfl (by decide +kernel) (Nat.le_of_ble_eq_true rfl) rfl (nodup_of rfl) rfl rfl rfl ?_
    intro B X w0
    refine pw_post ?_
    repeat' first | refine pw_seq ?_ | refine pw_skip ?_ | refine pw_ret ?_ | refine pw_exit ?_ | refine pw_block ?_ | refine pw_region (Nat.beq 5) hmix ?_ | (refine wpG_split rfl rfl (fun hc => ?_) (fun hc => ?_) <;> try simp only [hcL, reduceCtorEq] at hc) | (refine pw_cond _ rfl rfl (fun hc => ?_) (fun hc => ?_) <;> (try simp only [hcL, reduceCtorEq] at hc) <;> try (exfalso; omega)) | simp (maxSteps := 1000000) (disch := omega) only [go_sem, simprocAttr, he, roomy, take_map_len] | exact one_int l | apply And.intro | omega | decide +kernel
    refine ⟨_, entL_iff.1 (eL [(2000, 7)] [(2, .ref 2000 1 0 l.length l.length)] [(2000, .row 1 (l.map D.int))] (by refine ⟨?_, ?_⟩ <;> (repeat' first | exact List.forall_mem_nil _ | refine List.forall_mem_cons.2 ⟨(by first | rfl | (simp (disch := omega) only [go_sem, simprocAttr, inL]; first | done | omega | (congr 1; done))), ?_⟩); done)), ?_⟩
    exact ⟨rfl, List.forall_mem_cons.2 ⟨rfl, List.forall_mem_nil _⟩⟩
/-- The sum over all pairs of places, as the loops make it. -/
def nowS (m : List (List Int)) (A : Nat) : Int := sm (fun A => sm (fun j => cellAt m A (A + 1 + j)) (m.length - 1 - A)) A
theorem now_in {m : List (List Int)} (hs : Sq m) (A j : Nat) : 0 ≤ sm (fun j => cellAt m A (A + 1 + j)) j ∧ sm (fun j => cellAt m A (A + 1 + j)) j ≤ 1000000 * j := Go.Bd.sm_bounds j fun k _ => cellAt_le hs A (A + 1 + k)
theorem now_le {m : List (List Int)} (hs : Sq m) (h8 : m.length ≤ 8) (A : Nat) : 0 ≤ nowS m A ∧ nowS m A ≤ 8000000 * A :=
  Go.Bd.sm_bounds A fun k _ => by
    have := now_in hs k (m.length - 1 - k)
    omega
end Go.Proofs.Ytelghbnlceeecaa
namespace Go.Proofs.Ytelghbnlceeecaa
open Go Go.PS Go.Proofs
open Go.Bd (sm ix invF invN comN sumC Part bestF)
set_option maxRecDepth 100000
attribute [local irreducible] wpRun wpG CallsTo CallsM

set_option maxHeartbeats 16000000 in
theorem Layer_main (a : Lv) (old : List (List Int)) (w : Int) (i : Nat) (y : List Int) (hw : wide a) (har : a.2.2.1.length ≤ 700) (hok : okW a w = true) (hy : a.2.1[i]? = some y) (hy8 : y.length ≤ 8) :
    CallsTo Try.prog 23 [lvD a, listsD old, .int w, .int i] (.tup [lvD (bestLay a old w i), .int 0]) := by
  have h1 := wrong_spec a w hw
  rw [hok] at h1
  simp only [okW, Bool.and_eq_true, decide_eq_true_eq] at hok
  obtain ⟨hv, hwt⟩ := hok
  have hil := (List.getElem?_eq_some_iff.1 hy).1
  obtain ⟨t1, t2⟩ := lv_le hv
  have h2 := list_spec old i
  have h3 := matrix_spec a (lstN old i) y w i hw hv hwt hy
  have hmok := stM_ok (old := lstN old i) (y := y) (i := i) hwt har hy8
  have h4 := Least_spec (stM a (lstN old i) y w i)
  rw [if_pos hmok] at h4
  have hml := stM_len a (lstN old i) y w i
  obtain ⟨hs, h8⟩ := ok_sq hmok
  have hbp := (bestAll_part (stM a (lstN old i) y w i)).1
  rw [hml] at hbp
  have hbb : 0 ≤ (bestAll (stM a (lstN old i) y w i)).2 ∧ (bestAll (stM a (lstN old i) y w i)).2 ≤ 64000000 := by
    obtain ⟨g1, g2, _⟩ := Go.Bd.best_bounds hs.small h8 (part_nil _) (bestAll_eq (stM a (lstN old i) y w i))
    exact ⟨g1, g2⟩
  have hnow : nowS (stM a (lstN old i) y w i) y.length = sumC (cellAt (stM a (lstN old i) y w i)) (List.range y.length) := by
    rw [nowS, Go.Bd.sumC_range, hml]
  have hr1 := Reorder_spec a i y hw (by omega)
  have hr1e : reorderF a i y = (a, 0) := by
    have := reorder_put hv hy (range_part y.length)
    rw [permL_range, put_self hy] at this; exact this
  rw [hr1e] at hr1
  have hr2 := Reorder_spec a i (permL y (bestAll (stM a (lstN old i) y w i)).1) hw (by rw [permL_len]; have := hbp.len; omega)
  rw [reorder_put hv hy hbp] at hr2
  have hcl := cloneO_spec y (by omega)
  rw [bestLay, lstN_at hy]
  rw [← hnow]
  have hnl := now_le hs h8
  have hni := now_in hs
  have hmz : mixR (yG y) (fun k => yG y (((bestAll (stM a (lstN old i) y w i)).1[k]?).getD 0)) y.length 0 = y := by
    rw [mixR_zero]; exact permL_range y
  have hrow : rowG (fun k => yG y (((bestAll (stM a (lstN old i) y w i)).1[k]?).getD 0)) y.length = permL y (bestAll (stM a (lstN old i) y w i)).1 := by
    have hpl := hbp.len
    generalize (bestAll (stM a (lstN old i) y w i)).1 = p at *
    refine List.ext_getElem? fun k => ?_
    rw [permL, List.getElem?_map]
    by_cases hk : k < y.length
    · rw [rowG_get hk]
      obtain ⟨q, hq⟩ := get_some (l := p) (k := k) (by omega)
      rw [hq]; rfl
    · rw [List.getElem?_eq_none (by rw [rowG_len]; omega), List.getElem?_eq_none (by omega)]; rfl
  generalize stM a (lstN old i) y w i = m at *
  generalize hBB : bestAll m = BB at *
  obtain ⟨p, cost⟩ := BB
  dsimp only at *
  have hpl := hbp.len
  have hN : m.length = y.length := hml
  have hS : ∀ A, nowS m (A + 1) = nowS m A + sm (fun j => cellAt m A (A + 1 + j)) (m.length - 1 - A) := fun _ => rfl
  have hS0 : nowS m 0 = 0 := rfl
  generalize nowS m = S at *
  obtain ⟨n, ls, ar, cs⟩ := a
  dsimp only at *
  refine callsTo_of Try.func23 rfl (by decide +kernel) (Nat.le_of_ble_eq_true rfl) ?_
  intro hat B X w0
  repeat' first | refine pw_seq ?_ | refine pw_skip ?_ | refine pw_ret ?_ | refine pw_exit ?_ | refine pw_block ?_ | refine pw_region (fun _ => false) hmix ?_ | (refine rc (h1) rfl ?_ ?_; (· first | rfl | (simp (disch := omega) only [go_sem, simprocAttr, List.append_eq, hy]; done))) | (refine rc (h2) rfl ?_ ?_; (· first | rfl | (simp (disch := omega) only [go_sem, simprocAttr, List.append_eq, hy]; done))) | (refine rc (h3) rfl ?_ ?_; (· first | rfl | (simp (disch := omega) only [go_sem, simprocAttr, List.append_eq, hy]; done))) | (refine rc (h4) rfl ?_ ?_; (· first | rfl | (simp (disch := omega) only [go_sem, simprocAttr, List.append_eq, hy]; done))) | (refine wpG_split rfl rfl (fun hc => ?_) (fun hc => ?_) <;> try simp only [hcL, reduceCtorEq] at hc) | (refine pw_cond _ rfl rfl (fun hc => ?_) (fun hc => ?_) <;> (try simp only [hcL, reduceCtorEq] at hc) <;> try (exfalso; omega)) | simp (maxSteps := 1000000) (disch := omega) only [go_sem, simprocAttr, List.append_eq, hy] | apply And.intro | omega | decide +kernel
  refine pw_loopI (κ := Nat) (fun (A : Nat) => A ≤ y.length) (fun (A : Nat) => [(3, .int i), (4, .ptr 4 0 0 0), (8, .ptr 8 0 0 0), (10, .d (intsD y)), (11, .d (listsD m)), (12, .d (natsD p)), (13, .int cost), (15, .int (S A)), (69, .int y.length), (70, .int A)]) (fun (A : Nat) => [(4, .cells [.int n, .d (listsD ls), .d (arcsD ar), .d (listsD cs)]), (8, .cells [.int 0, .nilS, .nilS, .nilS])]) (fun (A : Nat) => y.length - A) 0 ?_ ?_ ?_
  · exact Nat.zero_le _
  · exact eL [] _ _ (by refine ⟨?_, ?_⟩ <;> (repeat' first | exact List.forall_mem_nil _ | refine List.forall_mem_cons.2 ⟨(by first | rfl | (simp (disch := omega) only [go_sem, simprocAttr, inL, hS0, hN]; first | done | omega | (congr 1; done))), ?_⟩); done)
  · intro A hA
    have b1 := hnl A
    rcases Nat.lt_or_ge A y.length with hlt | hge
    · have e1 := hS A
      repeat' first | refine pw_seq ?_ | refine pw_skip ?_ | refine pw_ret ?_ | refine pw_exit ?_ | refine pw_block ?_ | refine pw_region (fun _ => false) hmix ?_ | (refine wpG_split rfl rfl (fun hc => ?_) (fun hc => ?_) <;> try simp only [hcL, reduceCtorEq] at hc) | (refine pw_cond _ rfl rfl (fun hc => ?_) (fun hc => ?_) <;> (try simp only [hcL, reduceCtorEq] at hc) <;> try (exfalso; omega)) | simp (maxSteps := 1000000) (disch := omega) only [go_sem, simprocAttr] | apply And.intro | omega | decide +kernel
      refine pw_loopI (κ := Nat) (fun (j : Nat) => j ≤ y.length - 1 - A) (fun (j : Nat) => [(3, .int i), (4, .ptr 4 0 0 0), (8, .ptr 8 0 0 0), (10, .d (intsD y)), (11, .d (listsD m)), (12, .d (natsD p)), (13, .int cost), (15, .int (S A + sm (fun j => cellAt m A (A + 1 + j)) j)), (16, .int A), (17, .int (A + 1 + j : Nat)), (69, .int y.length), (70, .int A)]) (fun (j : Nat) => [(4, .cells [.int n, .d (listsD ls), .d (arcsD ar), .d (listsD cs)]), (8, .cells [.int 0, .nilS, .nilS, .nilS])]) (fun (j : Nat) => y.length - j) 0 ?_ ?_ ?_
      · exact Nat.zero_le _
      · exact eL [] _ _ (by refine ⟨?_, ?_⟩ <;> (repeat' first | exact List.forall_mem_nil _ | refine List.forall_mem_cons.2 ⟨(by first | rfl | (simp (disch := omega) only [go_sem, simprocAttr, inL, sm, Int.add_zero, Nat.add_zero, Int.natCast_add, Int.natCast_one]; first | done | omega | (congr 1; done))), ?_⟩); done)
      · intro j hj
        have b2 := hni A j
        rcases Nat.lt_or_ge (A + 1 + j) y.length with hlj | hgj
        · obtain ⟨r, hr, hrl, hrv, g1, g2⟩ := hs.get (show A < m.length by omega) (show A + 1 + j < m.length by omega)
          have e2 : sm (fun j => cellAt m A (A + 1 + j)) (j + 1) = sm (fun j => cellAt m A (A + 1 + j)) j + cellAt m A (A + 1 + j) := rfl
          repeat' first | refine pw_seq ?_ | refine pw_skip ?_ | refine pw_ret ?_ | refine pw_exit ?_ | refine pw_block ?_ | refine pw_region (fun _ => false) hmix ?_ | (refine wpG_split rfl rfl (fun hc => ?_) (fun hc => ?_) <;> try simp only [hcL, reduceCtorEq] at hc) | (refine pw_cond _ rfl rfl (fun hc => ?_) (fun hc => ?_) <;> (try simp only [hcL, reduceCtorEq] at hc) <;> try (exfalso; omega)) | simp (maxSteps := 1000000) (disch := omega) only [go_sem, simprocAttr, hr, hrv, hN] | apply And.intro | omega | decide +kernel
          refine ⟨j + 1, ?_, eL [] _ _ (by refine ⟨?_, ?_⟩ <;> (repeat' first | exact List.forall_mem_nil _ | refine List.forall_mem_cons.2 ⟨(by first | rfl | (simp (disch := omega) only [go_sem, simprocAttr, inL, e2, Int.natCast_add, Int.natCast_one, Int.add_assoc]; first | done | omega | (congr 1; done))), ?_⟩); done), ?_⟩
          · omega
          · omega
        · have : j = m.length - 1 - A := by omega
          subst this
          rw [← e1]
          repeat' first | refine pw_seq ?_ | refine pw_skip ?_ | refine pw_ret ?_ | refine pw_exit ?_ | refine pw_block ?_ | refine pw_region (fun _ => false) hmix ?_ | (refine wpG_split rfl rfl (fun hc => ?_) (fun hc => ?_) <;> try simp only [hcL, reduceCtorEq] at hc) | (refine pw_cond _ rfl rfl (fun hc => ?_) (fun hc => ?_) <;> (try simp only [hcL, reduceCtorEq] at hc) <;> try (exfalso; omega)) | simp (maxSteps := 1000000) (disch := omega) only [go_sem, simprocAttr, hN] | apply And.intro | omega | decide +kernel
          refine ⟨A + 1, ?_, eL [] _ _ (by refine ⟨?_, ?_⟩ <;> (repeat' first | exact List.forall_mem_nil _ | refine List.forall_mem_cons.2 ⟨(by first | rfl | (simp (disch := omega) only [go_sem, simprocAttr, inL]; first | done | omega | (congr 1; done))), ?_⟩); done), ?_⟩
          · omega
          · omega
    · have : A = y.length := by omega
      subst this
      by_cases hc : cost < S y.length
      · rw [if_pos hc]
        repeat' first | refine pw_seq ?_ | refine pw_skip ?_ | refine pw_ret ?_ | refine pw_exit ?_ | refine pw_block ?_ | refine pw_region (fun _ => false) hmix ?_ | refine rcM [(2000, 900)] (hcl) rfl ?_ | (refine wpG_split rfl rfl (fun hc => ?_) (fun hc => ?_) <;> try simp only [hcL, reduceCtorEq] at hc) | (refine pw_cond _ rfl rfl (fun hc => ?_) (fun hc => ?_) <;> (try simp only [hcL, reduceCtorEq] at hc) <;> try (exfalso; omega)) | simp (maxSteps := 1000000) (disch := omega) only [go_sem, simprocAttr, hc] | apply And.intro | omega | decide +kernel
        refine pw_loopI (κ := Nat) (fun (k : Nat) => k ≤ p.length) (fun (k : Nat) => [(3, .int i), (4, .ptr 4 0 0 0), (8, .ptr 8 0 0 0), (10, .d (intsD y)), (18, .ref 900 1 0 y.length y.length), (96, .d (natsD p)), (97, .int p.length), (98, .int k)]) (fun (k : Nat) => [(4, .cells [.int n, .d (listsD ls), .d (arcsD ar), .d (listsD cs)]), (8, .cells [.int 0, .nilS, .nilS, .nilS]), (900, .row 1 ((mixR (yG y) (fun k => yG y ((p[k]?).getD 0)) y.length k).map D.int))]) (fun (k : Nat) => p.length - k) 0 ?_ ?_ ?_
        · exact Nat.zero_le _
        · exact eL [] _ _ (by refine ⟨?_, ?_⟩ <;> (repeat' first | exact List.forall_mem_nil _ | refine List.forall_mem_cons.2 ⟨(by first | rfl | (simp (disch := omega) only [go_sem, simprocAttr, inL, hmz]; first | done | omega | (congr 1; done))), ?_⟩); done)
        · intro k hk
          have hml2 := mixR_len (yG y) (fun k => yG y ((p[k]?).getD 0)) y.length k
          rcases Nat.lt_or_ge k p.length with hlk | hgk
          · obtain ⟨q, hq⟩ := get_some hlk
            have hqn := hbp.lt q (List.mem_of_getElem? hq)
            have hyq : y[q]? = some (yG y q) := by rw [yG, List.getElem?_eq_getElem hqn]; rfl
            have hg : (mixR (yG y) (fun k => yG y ((p[k]?).getD 0)) y.length k)[k]? = some (yG y k) := mixR_get (by omega)
            have hst : (mixR (yG y) (fun k => yG y ((p[k]?).getD 0)) y.length k).set k (yG y ((p[k]?).getD 0)) = mixR (yG y) (fun k => yG y ((p[k]?).getD 0)) y.length (k + 1) := mixR_step (g := fun k => yG y ((p[k]?).getD 0)) (by omega)
            rw [hq, Option.getD_some] at hst
            generalize mixR (yG y) (fun k => yG y ((p[k]?).getD 0)) y.length k = R at *
            repeat' first | refine pw_seq ?_ | refine pw_skip ?_ | refine pw_ret ?_ | refine pw_exit ?_ | refine pw_block ?_ | refine pw_region (fun _ => false) hmix ?_ | (refine wpG_split rfl rfl (fun hc => ?_) (fun hc => ?_) <;> try simp only [hcL, reduceCtorEq] at hc) | (refine pw_cond _ rfl rfl (fun hc => ?_) (fun hc => ?_) <;> (try simp only [hcL, reduceCtorEq] at hc) <;> try (exfalso; omega)) | simp (maxSteps := 1000000) (disch := omega) only [go_sem, simprocAttr, hq, hyq, hg, hml2] | apply And.intro | omega | decide +kernel
            refine ⟨k + 1, ?_, eL [] _ _ (by refine ⟨?_, ?_⟩ <;> (repeat' first | exact List.forall_mem_nil _ | refine List.forall_mem_cons.2 ⟨(by first | rfl | (simp (disch := omega) only [go_sem, simprocAttr, inL, hst.symm, List.map_set]; first | done | omega | (congr 1; done))), ?_⟩); done), ?_⟩
            · omega
            · omega
          · have : k = y.length := by omega
            subst this
            rw [mixR_full, hrow]
            have hpn : (permL y p).length = y.length := by rw [permL_len]; omega
            have htk : ((permL y p).map D.int).take y.length = (permL y p).map D.int := List.take_of_length_le (by simp [hpn])
            refine pw_ent _ (ent_freeze 900 1 ((permL y p).map D.int) rfl (noGone_of _ rfl) (by decide)) ?_
            repeat' first | refine pw_seq ?_ | refine pw_skip ?_ | refine pw_ret ?_ | refine pw_exit ?_ | refine pw_block ?_ | refine pw_region (fun _ => false) hmix ?_ | (refine rc (hr2) rfl ?_ ?_; (· first | rfl | (simp (disch := omega) only [go_sem, simprocAttr, hpn, htk, List.drop_zero, List.append_eq]; done))) | (refine wpG_split rfl rfl (fun hc => ?_) (fun hc => ?_) <;> try simp only [hcL, reduceCtorEq] at hc) | (refine pw_cond _ rfl rfl (fun hc => ?_) (fun hc => ?_) <;> (try simp only [hcL, reduceCtorEq] at hc) <;> try (exfalso; omega)) | simp (maxSteps := 1000000) (disch := omega) only [go_sem, simprocAttr, hpn, htk, List.drop_zero, List.append_eq] | apply And.intro | omega | decide +kernel
            refine ⟨_, rfl, ⟨_, _, _, _, rfl, ?_⟩, int_some rfl, trivial⟩
            simp (maxSteps := 1000000) (disch := omega) only [go_sem, simprocAttr, toD]
      · rw [if_neg hc]
        repeat' first | refine pw_seq ?_ | refine pw_skip ?_ | refine pw_ret ?_ | refine pw_exit ?_ | refine pw_block ?_ | refine pw_regionB 28 rfl (fun _ => false) hmix ?_ | refine rcM [(2000, 900)] (hcl) rfl ?_ | (refine wpG_split rfl rfl (fun hc => ?_) (fun hc => ?_) <;> try simp only [hcL, reduceCtorEq] at hc) | (refine pw_cond _ rfl rfl (fun hc => ?_) (fun hc => ?_) <;> (try simp only [hcL, reduceCtorEq] at hc) <;> try (exfalso; omega)) | simp (maxSteps := 1000000) (disch := omega) only [go_sem, simprocAttr, hc] | apply And.intro | omega | decide +kernel
        refine eR [] [(3, .int i), (4, .ptr 4 0 0 0), (8, .ptr 8 0 0 0), (18, .ref 900 1 0 y.length y.length)] [(4, .cells [.int n, .d (listsD ls), .d (arcsD ar), .d (listsD cs)]), (8, .cells [.int 0, .nilS, .nilS, .nilS]), (900, .row 1 (y.map D.int))] (by refine ⟨?_, ?_⟩ <;> (repeat' first | exact List.forall_mem_nil _ | refine List.forall_mem_cons.2 ⟨(by first | rfl | (simp (disch := omega) only [go_sem, simprocAttr, inL]; first | done | omega | (congr 1; done))), ?_⟩); done) ?_
        refine pw_ent _ (ent_freeze 900 1 (y.map D.int) rfl (noGone_of _ rfl) (by decide)) ?_
        repeat' first | refine pw_seq ?_ | refine pw_skip ?_ | refine pw_ret ?_ | refine pw_exit ?_ | refine pw_block ?_ | refine pw_region (fun _ => false) hmix ?_ | (refine rc (hr1) rfl ?_ ?_; (· first | rfl | (simp (disch := omega) only [go_sem, simprocAttr, take_map_len, List.drop_zero, List.append_eq]; done))) | (refine wpG_split rfl rfl (fun hc => ?_) (fun hc => ?_) <;> try simp only [hcL, reduceCtorEq] at hc) | (refine pw_cond _ rfl rfl (fun hc => ?_) (fun hc => ?_) <;> (try simp only [hcL, reduceCtorEq] at hc) <;> try (exfalso; omega)) | simp (maxSteps := 1000000) (disch := omega) only [go_sem, simprocAttr, take_map_len, List.drop_zero, List.append_eq] | apply And.intro | omega | decide +kernel
        refine ⟨_, rfl, ⟨_, _, _, _, rfl, ?_⟩, int_some rfl, trivial⟩
        simp (maxSteps := 1000000) (disch := omega) only [go_sem, simprocAttr, toD]
end Go.Proofs.Ytelghbnlceeecaa
namespace Go.Proofs.Ytelghbnlceeecaa
open Go Go.PS Go.Proofs
open Go.Bd (sm ix invF invN comN sumC Part bestF)
set_option maxRecDepth 100000
attribute [local irreducible] wpRun wpG CallsTo CallsM

set_option maxHeartbeats 4000000 in
theorem Layer_spec (a : Lv) (old : List (List Int)) (w i : Int) (hw : wide a) (har : a.2.2.1.length ≤ 700) :
    CallsTo Try.prog 23 [lvD a, listsD old, .int w, .int i] (.tup [lvD (layerF a old w i).1, .int (layerF a old w i).2]) := by
  have h1 := wrong_spec a w hw
  rw [layerF]
  rcases hok : okW a w with _ | _
  · rw [hok] at h1
    rw [if_pos rfl]
    refine callsTo_of Try.func23 rfl (by decide +kernel) (Nat.le_of_ble_eq_true rfl) ?_
    intro hat B X w0
    repeat' first | refine pw_seq ?_ | refine pw_skip ?_ | refine pw_ret ?_ | refine pw_exit ?_ | refine pw_block ?_ | refine pw_region (fun _ => false) hmix ?_ | (refine rc (h1) rfl ?_ ?_; (· first | rfl | (simp (disch := omega) only [go_sem, simprocAttr, List.append_eq]; done))) | (refine wpG_split rfl rfl (fun hc => ?_) (fun hc => ?_) <;> try simp only [hcL, reduceCtorEq] at hc) | (refine pw_cond _ rfl rfl (fun hc => ?_) (fun hc => ?_) <;> (try simp only [hcL, reduceCtorEq] at hc) <;> try (exfalso; omega)) | simp (maxSteps := 1000000) (disch := omega) only [go_sem, simprocAttr, List.append_eq] | apply And.intro | omega | decide +kernel
    refine ⟨_, rfl, ⟨_, _, _, _, rfl, ?_⟩, int_some rfl, trivial⟩
    simp (maxSteps := 1000000) (disch := omega) only [go_sem, simprocAttr, toD]
    rfl
  · rw [if_neg (by decide)]
    have hv : validF a = true := by
      rw [okW, Bool.and_eq_true] at hok; exact hok.1
    obtain ⟨t1, t2⟩ := lv_le hv
    by_cases hi : i < 0 ∨ (a.2.1.length : Int) ≤ i
    · rw [if_pos hi]
      rw [hok] at h1
      obtain ⟨n, ls, ar, cs⟩ := a
      dsimp only at hi t1
      refine callsTo_of Try.func23 rfl (by decide +kernel) (Nat.le_of_ble_eq_true rfl) ?_
      intro hat B X w0
      repeat' first | refine pw_seq ?_ | refine pw_skip ?_ | refine pw_ret ?_ | refine pw_exit ?_ | refine pw_block ?_ | refine pw_region (fun _ => false) hmix ?_ | (refine rc (h1) rfl ?_ ?_; (· first | rfl | (simp (disch := omega) only [go_sem, simprocAttr, List.append_eq]; done))) | (refine wpG_split rfl rfl (fun hc => ?_) (fun hc => ?_) <;> try simp only [hcL, reduceCtorEq] at hc) | (refine pw_cond _ rfl rfl (fun hc => ?_) (fun hc => ?_) <;> (try simp only [hcL, reduceCtorEq] at hc) <;> try (exfalso; omega)) | simp (maxSteps := 1000000) (disch := omega) only [go_sem, simprocAttr, List.append_eq] | apply And.intro | omega | decide +kernel
      all_goals
        refine ⟨_, rfl, ⟨_, _, _, _, rfl, ?_⟩, int_some rfl, trivial⟩
        simp (maxSteps := 1000000) (disch := omega) only [go_sem, simprocAttr, toD]
        rfl
    · rw [if_neg hi]
      obtain ⟨i, rfl⟩ : ∃ n : Nat, i = n := ⟨i.toNat, by omega⟩
      rw [Int.toNat_natCast]
      obtain ⟨y, hy⟩ := get_some (l := a.2.1) (k := i) (by omega)
      rw [lstN_at hy]
      by_cases hy8 : 8 < y.length
      · rw [if_pos hy8]
        rw [hok] at h1
        have hyl := tot_mem (List.mem_of_getElem? hy)
        obtain ⟨n, ls, ar, cs⟩ := a
        dsimp only at hi t1 hy t2 hyl
        refine callsTo_of Try.func23 rfl (by decide +kernel) (Nat.le_of_ble_eq_true rfl) ?_
        intro hat B X w0
        repeat' first | refine pw_seq ?_ | refine pw_skip ?_ | refine pw_ret ?_ | refine pw_exit ?_ | refine pw_block ?_ | refine pw_region (fun _ => false) hmix ?_ | (refine rc (h1) rfl ?_ ?_; (· first | rfl | (simp (disch := omega) only [go_sem, simprocAttr, List.append_eq, hy]; done))) | (refine wpG_split rfl rfl (fun hc => ?_) (fun hc => ?_) <;> try simp only [hcL, reduceCtorEq] at hc) | (refine pw_cond _ rfl rfl (fun hc => ?_) (fun hc => ?_) <;> (try simp only [hcL, reduceCtorEq] at hc) <;> try (exfalso; omega)) | simp (maxSteps := 1000000) (disch := omega) only [go_sem, simprocAttr, List.append_eq, hy] | apply And.intro | omega | decide +kernel
        refine ⟨_, rfl, ⟨_, _, _, _, rfl, ?_⟩, int_some rfl, trivial⟩
        simp (maxSteps := 1000000) (disch := omega) only [go_sem, simprocAttr, toD]
        rfl
      · rw [if_neg hy8]
        exact Layer_main a old w i y hw har hok hy (by omega)
end Go.Proofs.Ytelghbnlceeecaa
