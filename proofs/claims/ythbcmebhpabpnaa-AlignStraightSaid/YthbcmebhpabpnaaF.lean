/- Levels: when two are the same. -/
import Derived.Test.YthbcmebhpabpnaaC
import Derived.Test.YthbcmebhpabpnaaTypes
set_option linter.unusedSimpArgs false
set_option linter.unusedVariables false
namespace Go.Proofs.Ythbcmebhpabpnaa
open Go Go.PS Go.Proofs
set_option maxRecDepth 100000
attribute [local irreducible] wpRun wpG CallsTo CallsM

theorem sameI_spec (l m : List Int) : CallsTo Try.prog 20 [intsD l, intsD m] (.bool (decide (l = m))) := by
 refine callsTo_of Try.func20 rfl (by decide +kernel) (Nat.le_of_ble_eq_true rfl) ?_
 intro hat B X w0
 have hl := at_len 0 hat rfl
 have hm := at_len 1 hat rfl
 rw [List.length_map] at hl hm
 by_cases hlm : l.length = m.length
 ·repeat' first | refine pw_step rfl ?_ | refine pw_ret ?_ | refine wR ?_ | (refine wpG_split rfl rfl (fun hc => ?_) (fun hc => ?_) <;> try simp only [hcL] at hc) | (refine pw_cond _ rfl rfl (fun hc => ?_) (fun hc => ?_) <;> (try simp only [hcL] at hc) <;> try omega) | simp (disch := omega) only [go_sem, simprocAttr] | apply And.intro | omega | decide +kernel
  refine pw_loopI (κ := Nat) (fun (k : Nat) => k ≤ l.length ∧ l.take k = m.take k) (fun (k : Nat) => [(0, .d (intsD l)), (1, .d (intsD m)), (5, .int k)]) (fun (k : Nat) => []) (fun (k : Nat) => l.length - k) 0 ?_ ?_ ?_
  ·exact ⟨Nat.zero_le _, rfl⟩
  ·exact eL [] _ _ (by refine ⟨?_, ?_⟩ <;> (repeat' first | exact fmn | refine fmc ⟨(by first | rfl | (simp (disch := omega) only [go_sem, simprocAttr, inL]; first | done | omega | (congr 1; done))), ?_⟩); done)
  ·rintro k ⟨hk, hinv⟩
   rcases Nat.lt_or_ge k l.length with hlt | hge
   ·obtain ⟨p, hp⟩ := get_some hlt
    obtain ⟨q, hq⟩ := get_some (hlm ▸ hlt)
    repeat' first | refine pw_step rfl ?_ | refine pw_ret ?_ | refine wR ?_ | (refine wpG_split rfl rfl (fun hc => ?_) (fun hc => ?_) <;> try simp only [hcL] at hc) | (refine pw_cond _ rfl rfl (fun hc => ?_) (fun hc => ?_) <;> (try simp only [hcL] at hc) <;> try omega) | simp (disch := omega) only [go_sem, simprocAttr, hp, hq] | apply And.intro | omega | decide +kernel
    ·refine bool_some ?_
     rw [decide_eq_false (take_ne hp hq hc)]
    ·refine ⟨k + 1, ?_, eL [] _ _ (by refine ⟨?_, ?_⟩ <;> (repeat' first | exact fmn | refine fmc ⟨(by first | rfl | (simp (disch := omega) only [go_sem, simprocAttr, inL]; first | done | omega | (congr 1; done))), ?_⟩); done), ?_⟩
     ·exact ⟨by omega, by rw [take_snoc hp, take_snoc hq, hinv, hc]⟩
     ·omega
   ·repeat' first | refine pw_step rfl ?_ | refine pw_ret ?_ | refine wR ?_ | (refine wpG_split rfl rfl (fun hc => ?_) (fun hc => ?_) <;> try simp only [hcL] at hc) | (refine pw_cond _ rfl rfl (fun hc => ?_) (fun hc => ?_) <;> (try simp only [hcL] at hc) <;> try omega) | simp (disch := omega) only [go_sem, simprocAttr] | apply And.intro | omega | decide +kernel
    refine bool_some ?_
    rw [List.take_of_length_le hge, List.take_of_length_le (by omega)] at hinv
    simp [hinv]
 ·repeat' first | refine pw_step rfl ?_ | refine pw_ret ?_ | refine wR ?_ | (refine wpG_split rfl rfl (fun hc => ?_) (fun hc => ?_) <;> try simp only [hcL] at hc) | (refine pw_cond _ rfl rfl (fun hc => ?_) (fun hc => ?_) <;> (try simp only [hcL] at hc) <;> try omega) | simp (disch := omega) only [go_sem, simprocAttr] | apply And.intro | omega | decide +kernel
  refine bool_some ?_
  rw [decide_eq_false]
  rintro rfl; exact hlm rfl
theorem sameL_spec (l m : List (List Int)) : CallsTo Try.prog 66 [listsD l, listsD m] (.bool (decide (l = m))) := by
 refine callsTo_of Try.func66 rfl (by decide +kernel) (Nat.le_of_ble_eq_true rfl) ?_
 intro hat B X w0
 have hl := at_len 0 hat rfl
 have hm := at_len 1 hat rfl
 rw [List.length_map] at hl hm
 by_cases hlm : l.length = m.length
 ·repeat' first | refine pw_step rfl ?_ | refine pw_ret ?_ | refine wR ?_ | (refine wpG_split rfl rfl (fun hc => ?_) (fun hc => ?_) <;> try simp only [hcL] at hc) | (refine pw_cond _ rfl rfl (fun hc => ?_) (fun hc => ?_) <;> (try simp only [hcL] at hc) <;> try omega) | simp (disch := omega) only [go_sem, simprocAttr] | apply And.intro | omega | decide +kernel
  refine pw_loopI (κ := Nat) (fun (k : Nat) => k ≤ l.length ∧ l.take k = m.take k) (fun (k : Nat) => [(0, .d (listsD l)), (1, .d (listsD m)), (5, .int k)]) (fun (k : Nat) => []) (fun (k : Nat) => l.length - k) 0 ?_ ?_ ?_
  ·exact ⟨Nat.zero_le _, rfl⟩
  ·exact eL [] _ _ (by refine ⟨?_, ?_⟩ <;> (repeat' first | exact fmn | refine fmc ⟨(by first | rfl | (simp (disch := omega) only [go_sem, simprocAttr, inL]; first | done | omega | (congr 1; done))), ?_⟩); done)
  ·rintro k ⟨hk, hinv⟩
   rcases Nat.lt_or_ge k l.length with hlt | hge
   ·obtain ⟨p, hp⟩ := get_some hlt
    obtain ⟨q, hq⟩ := get_some (hlm ▸ hlt)
    have he := sameI_spec p q
    by_cases hpq : p = q
    ·rw [decide_eq_true hpq] at he
     repeat' first | refine pw_step rfl ?_ | refine pw_ret ?_ | refine wR ?_ | (refine rc (he) rfl ?_ ?_; (· first | rfl | simp (disch := omega) only [go_sem, simprocAttr, hp, hq])) | (refine wpG_split rfl rfl (fun hc => ?_) (fun hc => ?_) <;> try simp only [hcL] at hc) | (refine pw_cond _ rfl rfl (fun hc => ?_) (fun hc => ?_) <;> (try simp only [hcL] at hc) <;> try omega) | simp (disch := omega) only [go_sem, simprocAttr, hp, hq] | apply And.intro | omega | decide +kernel
     refine ⟨k + 1, ?_, eL [] _ _ (by refine ⟨?_, ?_⟩ <;> (repeat' first | exact fmn | refine fmc ⟨(by first | rfl | (simp (disch := omega) only [go_sem, simprocAttr, inL]; first | done | omega | (congr 1; done))), ?_⟩); done), ?_⟩
     ·exact ⟨by omega, by rw [take_snoc hp, take_snoc hq, hinv, hpq]⟩
     ·omega
    ·rw [decide_eq_false hpq] at he
     repeat' first | refine pw_step rfl ?_ | refine pw_ret ?_ | refine wR ?_ | (refine rc (he) rfl ?_ ?_; (· first | rfl | simp (disch := omega) only [go_sem, simprocAttr, hp, hq])) | (refine wpG_split rfl rfl (fun hc => ?_) (fun hc => ?_) <;> try simp only [hcL] at hc) | (refine pw_cond _ rfl rfl (fun hc => ?_) (fun hc => ?_) <;> (try simp only [hcL] at hc) <;> try omega) | simp (disch := omega) only [go_sem, simprocAttr, hp, hq] | apply And.intro | omega | decide +kernel
     refine bool_some ?_
     rw [decide_eq_false (take_ne hp hq hpq)]
   ·repeat' first | refine pw_step rfl ?_ | refine pw_ret ?_ | refine wR ?_ | (refine wpG_split rfl rfl (fun hc => ?_) (fun hc => ?_) <;> try simp only [hcL] at hc) | (refine pw_cond _ rfl rfl (fun hc => ?_) (fun hc => ?_) <;> (try simp only [hcL] at hc) <;> try omega) | simp (disch := omega) only [go_sem, simprocAttr] | apply And.intro | omega | decide +kernel
    refine bool_some ?_
    rw [List.take_of_length_le hge, List.take_of_length_le (by omega)] at hinv
    simp [hinv]
 ·repeat' first | refine pw_step rfl ?_ | refine pw_ret ?_ | refine wR ?_ | (refine wpG_split rfl rfl (fun hc => ?_) (fun hc => ?_) <;> try simp only [hcL] at hc) | (refine pw_cond _ rfl rfl (fun hc => ?_) (fun hc => ?_) <;> (try simp only [hcL] at hc) <;> try omega) | simp (disch := omega) only [go_sem, simprocAttr] | apply And.intro | omega | decide +kernel
  refine bool_some ?_
  rw [decide_eq_false]
  rintro rfl; exact hlm rfl
theorem same1_spec (l m : List (List Int)) : CallsTo Try.prog 57 [listsD l, listsD m] (.bool (decide (l = m))) := by
 have h := equalF_spec l m
 refine callsTo_of Try.func57 rfl (by decide +kernel) (Nat.le_of_ble_eq_true rfl) ?_
 intro hat B X w0
 repeat' first | refine pw_step rfl ?_ | refine pw_ret ?_ | refine wR ?_ | (refine rc (h) rfl ?_ ?_; (· first | rfl | simp (disch := omega) only [go_sem, simprocAttr])) | (refine wpG_split rfl rfl (fun hc => ?_) (fun hc => ?_) <;> try simp only [hcL] at hc) | (refine pw_cond _ rfl rfl (fun hc => ?_) (fun hc => ?_) <;> (try simp only [hcL] at hc) <;> try omega) | simp (disch := omega) only [go_sem, simprocAttr] | apply And.intro | omega | decide +kernel
 exact bool_some rfl
def sameLv (a b : Lv) : Bool := decide (a.1 = b.1) && decide (a.2.1 = b.2.1) && decide (a.2.2.1 = b.2.2.1) && decide (a.2.2.2 = b.2.2.2)
theorem sameLv_iff {a b : Lv} : sameLv a b = true ↔ a = b := by
 obtain ⟨a1, a2, a3, a4⟩ := a
 obtain ⟨b1, b2, b3, b4⟩ := b
 simp [sameLv, Prod.ext_iff, and_assoc]
theorem Same_spec (a b : Lv) : CallsTo Try.prog 40 [lvD a, lvD b] (.bool (sameLv a b)) := by
 have h1 := same1_spec a.2.1 b.2.1
 have h2 := equal_spec a.2.2.1 b.2.2.1
 have h3 := same1_spec a.2.2.2 b.2.2.2
 rw [sameLv]
 by_cases e : a.1 = b.1
 ·rw [decide_eq_true e]
  rcases e1 : decide (a.2.1 = b.2.1) with _ | _ <;> rw [e1] at h1 <;> rcases e2 : decide (a.2.2.1 = b.2.2.1) with _ | _ <;> rw [e2] at h2 <;> rcases e3 : decide (a.2.2.2 = b.2.2.2) with _ | _ <;> rw [e3] at h3
  all_goals
   refine callsTo_of Try.func40 rfl (by decide +kernel) (Nat.le_of_ble_eq_true rfl) ?_
   intro hat B X w0
   repeat' first | refine pw_step rfl ?_ | refine pw_ret ?_ | refine wR ?_ | (refine rc (h1) rfl ?_ ?_; (· first | rfl | simp (disch := omega) only [go_sem, simprocAttr, List.append_eq, e])) | (refine rc (h2) rfl ?_ ?_; (· first | rfl | simp (disch := omega) only [go_sem, simprocAttr, List.append_eq, e])) | (refine rc (h3) rfl ?_ ?_; (· first | rfl | simp (disch := omega) only [go_sem, simprocAttr, List.append_eq, e])) | (refine wpG_split rfl rfl (fun hc => ?_) (fun hc => ?_) <;> try simp only [hcL] at hc) | (refine pw_cond _ rfl rfl (fun hc => ?_) (fun hc => ?_) <;> (try simp only [hcL] at hc) <;> try omega) | simp (disch := omega) only [go_sem, simprocAttr, List.append_eq, e] | apply And.intro | omega | decide +kernel
   exact bool_some rfl
 ·rw [decide_eq_false e]
  refine callsTo_of Try.func40 rfl (by decide +kernel) (Nat.le_of_ble_eq_true rfl) ?_
  intro hat B X w0
  repeat' first | refine pw_step rfl ?_ | refine pw_ret ?_ | refine wR ?_ | (refine rc (h1) rfl ?_ ?_; (· first | rfl | simp (disch := omega) only [go_sem, simprocAttr, List.append_eq, e])) | (refine rc (h2) rfl ?_ ?_; (· first | rfl | simp (disch := omega) only [go_sem, simprocAttr, List.append_eq, e])) | (refine rc (h3) rfl ?_ ?_; (· first | rfl | simp (disch := omega) only [go_sem, simprocAttr, List.append_eq, e])) | (refine wpG_split rfl rfl (fun hc => ?_) (fun hc => ?_) <;> try simp only [hcL] at hc) | (refine pw_cond _ rfl rfl (fun hc => ?_) (fun hc => ?_) <;> (try simp only [hcL] at hc) <;> try omega) | simp (disch := omega) only [go_sem, simprocAttr, List.append_eq, e] | apply And.intro | omega | decide +kernel
  exact bool_some rfl
theorem rSame_spec (a b : Lv) : CallsTo Try.prog 44 [lvD a, lvD b] (.bool (sameLv a b)) := by
 have h1 := sameL_spec a.2.1 b.2.1
 have h3 := sameL_spec a.2.2.2 b.2.2.2
 obtain ⟨a1, a2, a3, a4⟩ := a
 obtain ⟨b1, b2, b3, b4⟩ := b
 dsimp only [sameLv] at *
 have fl : ∀ x : Bool, x = false → CallsTo Try.prog 44 [lvD (a1, a2, a3, a4), lvD (b1, b2, b3, b4)] (.bool false) → CallsTo Try.prog 44 [lvD (a1, a2, a3, a4), lvD (b1, b2, b3, b4)] (.bool x) := fun x hx h => hx ▸ h
 by_cases e : a1 = b1 ∧ a3.length = b3.length
 ·obtain ⟨rfl, e2⟩ := e
  rcases e1 : decide (a2 = b2) with _ | _
  ·rw [e1] at h1
   refine fl _ (by simp) ?_
   refine callsTo_of Try.func44 rfl (by decide +kernel) (Nat.le_of_ble_eq_true rfl) ?_
   intro hat B X w0
   have hla := at_len2 0 2 hat rfl rfl
   have hlb := at_len2 1 2 hat rfl rfl
   rw [List.length_map] at hla hlb
   dsimp only at hla hlb
   repeat' first | refine pw_step rfl ?_ | refine pw_ret ?_ | refine wR ?_ | (refine rc (h1) rfl ?_ ?_; (· first | rfl | simp (disch := omega) only [go_sem, simprocAttr, List.append_eq, e2])) | (refine rc (h3) rfl ?_ ?_; (· first | rfl | simp (disch := omega) only [go_sem, simprocAttr, List.append_eq, e2])) | (refine wpG_split rfl rfl (fun hc => ?_) (fun hc => ?_) <;> try simp only [hcL] at hc) | (refine pw_cond _ rfl rfl (fun hc => ?_) (fun hc => ?_) <;> (try simp only [hcL] at hc) <;> try omega) | simp (disch := omega) only [go_sem, simprocAttr, List.append_eq, e2] | apply And.intro | omega | decide +kernel
   exact bool_some rfl
  ·rw [e1] at h1
   rcases e4 : decide (a4 = b4) with _ | _
   ·rw [e4] at h3
    refine fl _ (by simp) ?_
    refine callsTo_of Try.func44 rfl (by decide +kernel) (Nat.le_of_ble_eq_true rfl) ?_
    intro hat B X w0
    have hla := at_len2 0 2 hat rfl rfl
    have hlb := at_len2 1 2 hat rfl rfl
    rw [List.length_map] at hla hlb
    dsimp only at hla hlb
    repeat' first | refine pw_step rfl ?_ | refine pw_ret ?_ | refine wR ?_ | (refine rc (h1) rfl ?_ ?_; (· first | rfl | simp (disch := omega) only [go_sem, simprocAttr, List.append_eq, e2])) | (refine rc (h3) rfl ?_ ?_; (· first | rfl | simp (disch := omega) only [go_sem, simprocAttr, List.append_eq, e2])) | (refine wpG_split rfl rfl (fun hc => ?_) (fun hc => ?_) <;> try simp only [hcL] at hc) | (refine pw_cond _ rfl rfl (fun hc => ?_) (fun hc => ?_) <;> (try simp only [hcL] at hc) <;> try omega) | simp (disch := omega) only [go_sem, simprocAttr, List.append_eq, e2] | apply And.intro | omega | decide +kernel
    exact bool_some rfl
   ·rw [e4] at h3
    have er : (decide (a1 = a1) && true && decide (a3 = b3) && true) = decide (a3 = b3) := by simp
    rw [er]
    refine callsTo_of Try.func44 rfl (by decide +kernel) (Nat.le_of_ble_eq_true rfl) ?_
    intro hat B X w0
    have hla := at_len2 0 2 hat rfl rfl
    have hlb := at_len2 1 2 hat rfl rfl
    rw [List.length_map] at hla hlb
    dsimp only at hla hlb
    repeat' first | refine pw_step rfl ?_ | refine pw_ret ?_ | refine wR ?_ | (refine rc (h1) rfl ?_ ?_; (· first | rfl | simp (disch := omega) only [go_sem, simprocAttr, List.append_eq, e2])) | (refine rc (h3) rfl ?_ ?_; (· first | rfl | simp (disch := omega) only [go_sem, simprocAttr, List.append_eq, e2])) | (refine wpG_split rfl rfl (fun hc => ?_) (fun hc => ?_) <;> try simp only [hcL] at hc) | (refine pw_cond _ rfl rfl (fun hc => ?_) (fun hc => ?_) <;> (try simp only [hcL] at hc) <;> try omega) | simp (disch := omega) only [go_sem, simprocAttr, List.append_eq, e2] | apply And.intro | omega | decide +kernel
    refine pw_loopI (κ := Nat) (fun (k : Nat) => k ≤ a3.length ∧ a3.take k = b3.take k) (fun (k : Nat) => [(2, .ptr 2 0 0 0), (3, .ptr 3 0 0 0), (5, .int k)]) (fun (k : Nat) => [(2, .cells [.int a1, .d (listsD a2), .d (arcsD a3), .d (listsD a4)]), (3, .cells [.int a1, .d (listsD b2), .d (arcsD b3), .d (listsD b4)])]) (fun (k : Nat) => a3.length - k) 0 ?_ ?_ ?_
    ·exact ⟨Nat.zero_le _, rfl⟩
    ·exact eL [] _ _ (by refine ⟨?_, ?_⟩ <;> (repeat' first | exact fmn | refine fmc ⟨(by first | rfl | (simp (disch := omega) only [go_sem, simprocAttr, inL]; first | done | omega | (congr 1; done))), ?_⟩); done)
    ·rintro k ⟨hk, hinv⟩
     rcases Nat.lt_or_ge k a3.length with hlt | hge
     ·obtain ⟨p, hp⟩ := get_some hlt
      obtain ⟨q, hq⟩ := get_some (e2 ▸ hlt)
      repeat' first | refine pw_step rfl ?_ | refine pw_ret ?_ | refine wR ?_ | (refine wpG_split rfl rfl (fun hc => ?_) (fun hc => ?_) <;> try simp only [hcL] at hc) | (refine pw_cond _ rfl rfl (fun hc => ?_) (fun hc => ?_) <;> (try simp only [hcL] at hc) <;> try omega) | simp (disch := omega) only [go_sem, simprocAttr, hp, hq, arcEq] | apply And.intro | omega | decide +kernel
      ·refine bool_some ?_
       rw [decide_eq_false (take_ne hp hq hc)]
      ·refine ⟨k + 1, ?_, eL [] _ _ (by refine ⟨?_, ?_⟩ <;> (repeat' first | exact fmn | refine fmc ⟨(by first | rfl | (simp (disch := omega) only [go_sem, simprocAttr, inL]; first | done | omega | (congr 1; done))), ?_⟩); done), ?_⟩
       ·exact ⟨by omega, by rw [take_snoc hp, take_snoc hq, hinv, hc]⟩
       ·omega
     ·repeat' first | refine pw_step rfl ?_ | refine pw_ret ?_ | refine wR ?_ | (refine wpG_split rfl rfl (fun hc => ?_) (fun hc => ?_) <;> try simp only [hcL] at hc) | (refine pw_cond _ rfl rfl (fun hc => ?_) (fun hc => ?_) <;> (try simp only [hcL] at hc) <;> try omega) | simp (disch := omega) only [go_sem, simprocAttr] | apply And.intro | omega | decide +kernel
      refine bool_some ?_
      rw [List.take_of_length_le hge, List.take_of_length_le (by omega)] at hinv
      simp [hinv]
 ·refine fl _ ?_ ?_
  ·rcases Decidable.em (a1 = b1) with h | h
   ·have h2 : ¬ a3 = b3 := fun h2 => e ⟨h, by rw [h2]⟩
    simp [h2]
   ·simp [h]
  ·refine callsTo_of Try.func44 rfl (by decide +kernel) (Nat.le_of_ble_eq_true rfl) ?_
   intro hat B X w0
   have hla := at_len2 0 2 hat rfl rfl
   have hlb := at_len2 1 2 hat rfl rfl
   rw [List.length_map] at hla hlb
   dsimp only at hla hlb
   by_cases h : a1 = b1
   ·have h2 : ¬ a3.length = b3.length := fun h2 => e ⟨h, h2⟩
    repeat' first | refine pw_step rfl ?_ | refine pw_ret ?_ | refine wR ?_ | (refine rc (h1) rfl ?_ ?_; (· first | rfl | simp (disch := omega) only [go_sem, simprocAttr, List.append_eq, h])) | (refine rc (h3) rfl ?_ ?_; (· first | rfl | simp (disch := omega) only [go_sem, simprocAttr, List.append_eq, h])) | (refine wpG_split rfl rfl (fun hc => ?_) (fun hc => ?_) <;> try simp only [hcL] at hc) | (refine pw_cond _ rfl rfl (fun hc => ?_) (fun hc => ?_) <;> (try simp only [hcL] at hc) <;> try omega) | simp (disch := omega) only [go_sem, simprocAttr, List.append_eq, h] | apply And.intro | omega | decide +kernel
    exact bool_some rfl
   ·repeat' first | refine pw_step rfl ?_ | refine pw_ret ?_ | refine wR ?_ | (refine rc (h1) rfl ?_ ?_; (· first | rfl | simp (disch := omega) only [go_sem, simprocAttr, List.append_eq, h])) | (refine rc (h3) rfl ?_ ?_; (· first | rfl | simp (disch := omega) only [go_sem, simprocAttr, List.append_eq, h])) | (refine wpG_split rfl rfl (fun hc => ?_) (fun hc => ?_) <;> try simp only [hcL] at hc) | (refine pw_cond _ rfl rfl (fun hc => ?_) (fun hc => ?_) <;> (try simp only [hcL] at hc) <;> try omega) | simp (disch := omega) only [go_sem, simprocAttr, List.append_eq, h] | apply And.intro | omega | decide +kernel
    exact bool_some rfl
end Go.Proofs.Ythbcmebhpabpnaa
namespace Go.Proofs.Ythbcmebhpabpnaa
open Go Go.PS Go.Proofs
set_option maxRecDepth 100000
attribute [local irreducible] wpRun wpG CallsTo CallsM

def layI (ls : List (List Int)) (v : Int) : Int := idxI (ls.findIdx? fun y => y.any fun x => decide (x = v))
def posI (ls : List (List Int)) (v : Int) : Int := match ls.findIdx? (fun y => y.any fun x => decide (x = v)) with
 | some k => placeF ((ls[k]?).getD []) v
 | none => -1
theorem placeF_iff (l : List Int) (v : Int) : decide (0 ≤ placeF l v) = l.any fun x => decide (x = v) := idx_any _ l
theorem find_spec (a : Lv) (v : Int) : CallsTo Try.prog 38 [lvD a, .int v] (.tup [.int (layI a.2.1 v), .int (posI a.2.1 v)]) := by
 obtain ⟨n, ls, ar, cs⟩ := a
 refine callsTo_of Try.func38 rfl (by decide +kernel) (Nat.le_of_ble_eq_true rfl) ?_
 intro hat B X w0
 have hl := at_len2 0 1 hat rfl rfl
 rw [List.length_map] at hl
 dsimp only at hl
 repeat' first | refine pw_step rfl ?_ | refine pw_ret ?_ | refine wR ?_ | (refine wpG_split rfl rfl (fun hc => ?_) (fun hc => ?_) <;> try simp only [hcL] at hc) | (refine pw_cond _ rfl rfl (fun hc => ?_) (fun hc => ?_) <;> (try simp only [hcL] at hc) <;> try omega) | simp (disch := omega) only [go_sem, simprocAttr] | apply And.intro | omega | decide +kernel
 refine pw_loopI (κ := Nat) (fun (k : Nat) => k ≤ ls.length ∧ ∀ (j : Nat) y, j < k → ls[j]? = some y → (y.any fun x => decide (x = v)) = false) (fun (k : Nat) => [(1, .int v), (2, .ptr 2 0 0 0), (10, .d (listsD ls)), (11, .int ls.length), (12, .int k)]) (fun (k : Nat) => [(2, .cells [.int n, .d (listsD ls), .d (arcsD ar), .d (listsD cs)])]) (fun (k : Nat) => ls.length - k) 0 ?_ ?_ ?_
 ·exact ⟨Nat.zero_le _, fun j y h => by omega⟩
 ·exact eL [] _ _ (by refine ⟨?_, ?_⟩ <;> (repeat' first | exact fmn | refine fmc ⟨(by first | rfl | (simp (disch := omega) only [go_sem, simprocAttr, inL]; first | done | omega | (congr 1; done))), ?_⟩); done)
 ·rintro k ⟨hk, hinv⟩
  rcases Nat.lt_or_ge k ls.length with hlt | hge
  ·obtain ⟨p, hp⟩ := get_some hlt
   have hix := index_spec p v
   have hpi := placeF_iff p v
   by_cases h0 : 0 ≤ placeF p v
   ·rw [decide_eq_true h0] at hpi
    have hf : ls.findIdx? (fun y => y.any fun x => decide (x = v)) = some k := findIdx_at hp hpi.symm hinv
    repeat' first | refine pw_step rfl ?_ | refine pw_ret ?_ | refine wR ?_ | (refine rc (hix) rfl ?_ ?_; (· first | rfl | simp (disch := omega) only [go_sem, simprocAttr, hp])) | (refine wpG_split rfl rfl (fun hc => ?_) (fun hc => ?_) <;> try simp only [hcL] at hc) | (refine pw_cond _ rfl rfl (fun hc => ?_) (fun hc => ?_) <;> (try simp only [hcL] at hc) <;> try omega) | simp (disch := omega) only [go_sem, simprocAttr, hp] | apply And.intro | omega | decide +kernel
    refine ⟨_, rfl, int_some ?_, int_some ?_, trivial⟩
    ·dsimp only [layI]; rw [hf]; rfl
    ·dsimp only [posI]; rw [hf]; dsimp only; rw [hp]; rfl
   ·rw [decide_eq_false h0] at hpi
    repeat' first | refine pw_step rfl ?_ | refine pw_ret ?_ | refine wR ?_ | (refine rc (hix) rfl ?_ ?_; (· first | rfl | simp (disch := omega) only [go_sem, simprocAttr, hp])) | (refine wpG_split rfl rfl (fun hc => ?_) (fun hc => ?_) <;> try simp only [hcL] at hc) | (refine pw_cond _ rfl rfl (fun hc => ?_) (fun hc => ?_) <;> (try simp only [hcL] at hc) <;> try omega) | simp (disch := omega) only [go_sem, simprocAttr, hp] | apply And.intro | omega | decide +kernel
    refine ⟨k + 1, ?_, eL [] _ _ (by refine ⟨?_, ?_⟩ <;> (repeat' first | exact fmn | refine fmc ⟨(by first | rfl | (simp (disch := omega) only [go_sem, simprocAttr, inL]; first | done | omega | (congr 1; done))), ?_⟩); done), ?_⟩
    ·exact ⟨by omega, upto_succ hinv hp hpi.symm⟩
    ·omega
  ·have hf : ls.findIdx? (fun y => y.any fun x => decide (x = v)) = none := findIdx_no fun j y hy => hinv j y (by have := (List.getElem?_eq_some_iff.1 hy).1; omega) hy
   repeat' first | refine pw_step rfl ?_ | refine pw_ret ?_ | refine wR ?_ | (refine wpG_split rfl rfl (fun hc => ?_) (fun hc => ?_) <;> try simp only [hcL] at hc) | (refine pw_cond _ rfl rfl (fun hc => ?_) (fun hc => ?_) <;> (try simp only [hcL] at hc) <;> try omega) | simp (disch := omega) only [go_sem, simprocAttr] | apply And.intro | omega | decide +kernel
   refine ⟨_, rfl, int_some ?_, int_some ?_, trivial⟩
   ·dsimp only [layI]; rw [hf]; rfl
   ·dsimp only [posI]; rw [hf]
def sortLv (a : Lv) : Lv := (a.1, a.2.1.map sortL, a.2.2.1, a.2.2.2)
theorem sorted_spec (a : Lv) (hn : a.2.1.length ≤ 1000) (hl : ∀ y, y ∈ a.2.1 → y.length * 8 ≤ 140737488351232) : CallsTo Try.prog 41 [lvD a] (lvD (sortLv a)) := by
 obtain ⟨n, ls, ar, cs⟩ := a
 dsimp only at hn hl
 refine callsTo_of Try.func41 rfl (by decide +kernel) (Nat.le_of_ble_eq_true rfl) ?_
 intro hat B X w0
 repeat' first | refine pw_step rfl ?_ | refine pw_ret ?_ | refine wR ?_ | (refine wpG_split rfl rfl (fun hc => ?_) (fun hc => ?_) <;> try simp only [hcL] at hc) | (refine pw_cond _ rfl rfl (fun hc => ?_) (fun hc => ?_) <;> (try simp only [hcL] at hc) <;> try omega) | simp (disch := omega) only [go_sem, simprocAttr] | apply And.intro | omega | decide +kernel
 refine pw_ent _ (ent_nilRow 9 ls.length rfl) ?_
 refine pw_loopI (κ := Nat) (fun (k : Nat) => k ≤ ls.length) (fun (k : Nat) => [(1, .ptr 1 0 0 0), (2, .ptr 2 0 0 0), (3, .ref 9 1 0 ls.length ls.length), (11, .d (listsD ls)), (12, .int ls.length), (13, .int k)]) (fun (k : Nat) => [(1, .cells [.int n, .d (listsD ls), .d (arcsD ar), .d (listsD cs)]), (2, .cells [.int 0, .nilS, .nilS, .nilS]), (9, .row 1 (((ls.map sortL).take k).map intsD ++ List.replicate (ls.length - k) (.sl [])))]) (fun (k : Nat) => ls.length - k) 0 ?_ ?_ ?_
 ·exact Nat.zero_le _
 ·exact eL [] _ _ (by refine ⟨?_, ?_⟩ <;> (repeat' first | exact fmn | refine fmc ⟨(by first | rfl | (simp (disch := omega) only [go_sem, simprocAttr, inL, List.take_zero, List.map_nil, List.nil_append, Nat.sub_zero]; first | done | omega | (congr 1; done))), ?_⟩); done)
 ·intro k hk
  rcases Nat.lt_or_ge k ls.length with hlt | hge
  ·obtain ⟨p, hp⟩ := get_some hlt
   have hpl := hl p (List.mem_of_getElem? hp)
   have hv := Values_spec p
   have hs := Sorted_spec p (by omega)
   have hm : (ls.map sortL)[k]? = some (sortL p) := by rw [List.getElem?_map, hp]; rfl
   have hst : (((ls.map sortL).take k).map intsD ++ List.replicate (ls.length - k) (D.sl [])).set k (intsD (sortL p)) = ((ls.map sortL).take (k + 1)).map intsD ++ List.replicate (ls.length - (k + 1)) (D.sl []) := by
    have hlk : (((ls.map sortL).take k).map intsD).length = k := by rw [List.length_map, List.length_take, List.length_map]; omega
    have e : ls.length - k = (ls.length - (k + 1)) + 1 := by omega
    rw [List.set_append, hlk, if_neg (by omega), Nat.sub_self, e, List.replicate_succ, List.set_cons_zero, take_snoc hm, List.map_append, List.append_assoc]
    rfl
   have hLn : (((ls.map sortL).take k).map intsD ++ List.replicate (ls.length - k) (D.sl [])).length = ls.length := by
    rw [List.length_append, List.length_map, List.length_take, List.length_map, List.length_replicate]; omega
   have hgk : (((ls.map sortL).take k).map intsD ++ List.replicate (ls.length - k) (D.sl []))[k]? = some (D.sl []) := by
    rw [List.getElem?_append_right (by rw [List.length_map, List.length_take, List.length_map]; omega), List.length_map, List.length_take, List.length_map, Nat.min_eq_left (by omega), Nat.sub_self, List.getElem?_replicate, if_pos (by omega)]
   repeat' first | refine pw_step rfl ?_ | refine pw_ret ?_ | refine wR ?_ | (refine rc (hv) rfl ?_ ?_; (· first | rfl | simp (disch := omega) only [go_sem, simprocAttr, hp, hLn, hgk])) | (refine rc (hs) rfl ?_ ?_; (· first | rfl | simp (disch := omega) only [go_sem, simprocAttr, hp, hLn, hgk])) | (refine wpG_split rfl rfl (fun hc => ?_) (fun hc => ?_) <;> try simp only [hcL] at hc) | (refine pw_cond _ rfl rfl (fun hc => ?_) (fun hc => ?_) <;> (try simp only [hcL] at hc) <;> try omega) | simp (disch := omega) only [go_sem, simprocAttr, hp, hLn, hgk] | apply And.intro | omega | decide +kernel
   refine ⟨k + 1, ?_, eL [] _ _ (by refine ⟨?_, ?_⟩ <;> (repeat' first | exact fmn | refine fmc ⟨(by first | rfl | (simp (disch := omega) only [go_sem, simprocAttr, inL, hst]; first | done | omega | (congr 1; done))), ?_⟩); done), ?_⟩
   ·omega
   ·omega
  ·have : k = ls.length := by omega
   subst this
   have htl : ((ls.map sortL).take ls.length) = ls.map sortL := List.take_of_length_le (by rw [List.length_map]; exact Nat.le_refl _)
   try dsimp only
   rw [htl, Nat.sub_self]
   repeat' first | refine pw_step rfl ?_ | refine pw_ret ?_ | refine wR ?_ | (refine wpG_split rfl rfl (fun hc => ?_) (fun hc => ?_) <;> try simp only [hcL] at hc) | (refine pw_cond _ rfl rfl (fun hc => ?_) (fun hc => ?_) <;> (try simp only [hcL] at hc) <;> try omega) | simp (disch := omega) only [go_sem, simprocAttr] | apply And.intro | omega | decide +kernel
   refine ⟨_, _, _, _, rfl, ?_⟩
   simp (disch := omega) only [go_sem, simprocAttr, toD, List.replicate_zero, List.append_nil, List.length_map, List.take_of_length_le]
   rw [List.take_of_length_le (by rw [List.length_map, List.length_map]; exact Nat.le_refl _)]
   rfl
def downTo (o : List Int) (x : Int) : Nat → Nat
 | 0 => 0
 | k + 1 => if x < at0 o k then downTo o x k else k + 1
theorem downTo_le (o : List Int) (x : Int) : ∀ k, downTo o x k ≤ k
 | 0 => Nat.le_refl _
 | k + 1 => by rw [downTo]; have := downTo_le o x k; split <;> omega
def insA (o : List Int) (x : Int) : List Int := o.take (downTo o x o.length) ++ [x] ++ o.drop (downTo o x o.length)
theorem insA_len (o : List Int) (x : Int) : (insA o x).length = o.length + 1 := by
 have := downTo_le o x o.length
 simp only [insA, List.length_append, List.length_take, List.length_drop, List.length_cons, List.length_nil]
 omega
def insN (l : List Int) : Nat → List Int
 | 0 => []
 | k + 1 => insA (insN l k) (at0 l k)
theorem insN_len (l : List Int) : ∀ k, (insN l k).length = k
 | 0 => rfl
 | k + 1 => by rw [insN, insA_len, insN_len l k]
theorem one_take (r : List Int) (k : Nat) : ∀ d, d ∈ (List.map D.int r).take k → d.cells.length = 1 := fun d hd => one_int r d (List.mem_of_mem_take hd)
theorem one_drop (r : List Int) (k : Nat) : ∀ d, d ∈ (List.map D.int r).drop k → d.cells.length = 1 := fun d hd => one_int r d (List.mem_of_mem_drop hd)
theorem one_drop2 (r : List Int) (k j : Nat) : ∀ d, d ∈ ((List.map D.int r).drop k).take j → d.cells.length = 1 := fun d hd => one_int r d (List.mem_of_mem_drop (List.mem_of_mem_take hd))
theorem rSorted_spec (l : List Int) (hl : l.length ≤ 1000) : CallsTo Try.prog 67 [intsD l] (intsD (insN l l.length)) := by
 refine callsTo_of Try.func67 rfl (by decide +kernel) (Nat.le_of_ble_eq_true rfl) ?_
 intro hat B X w0
 repeat' first | refine pw_step rfl ?_ | refine pw_ret ?_ | refine wR ?_ | (refine wpG_split rfl rfl (fun hc => ?_) (fun hc => ?_) <;> try simp only [hcL] at hc) | (refine pw_cond _ rfl rfl (fun hc => ?_) (fun hc => ?_) <;> (try simp only [hcL] at hc) <;> try omega) | simp (disch := omega) only [go_sem, simprocAttr] | apply And.intro | omega | decide +kernel
 refine pw_ent _ (ent_nil 3 900 1 rfl rfl) ?_
 refine pw_loopI (κ := Nat) (fun (i : Nat) => i ≤ l.length) (fun (i : Nat) => [(0, .d (intsD l)), (3, .ref 900 1 0 i i), (4, .int i)]) (fun (i : Nat) => [(900, .row 1 ((insN l i).map D.int))]) (fun (i : Nat) => l.length - i) 0 ?_ ?_ ?_
 ·exact Nat.zero_le _
 ·exact eL [] _ _ (by refine ⟨?_, ?_⟩ <;> (repeat' first | exact fmn | refine fmc ⟨(by first | rfl | (simp (disch := omega) only [go_sem, simprocAttr, inL, insN, List.map_nil]; first | done | omega | (congr 1; done))), ?_⟩); done)
 ·intro i hi
  have hil := insN_len l i
  rcases Nat.lt_or_ge i l.length with hlt | hge
  ·have gi := at0_at hlt
   have his : insN l (i + 1) = insA (insN l i) (at0 l i) := rfl
   generalize at0 l i = x at gi his
   generalize hO : insN l i = O at hil his ⊢
   repeat' first | refine pw_step rfl ?_ | refine pw_ret ?_ | refine wR ?_ | (refine wpG_split rfl rfl (fun hc => ?_) (fun hc => ?_) <;> try simp only [hcL] at hc) | (refine pw_cond _ rfl rfl (fun hc => ?_) (fun hc => ?_) <;> (try simp only [hcL] at hc) <;> try omega) | simp (disch := omega) only [go_sem, simprocAttr] | apply And.intro | omega | decide +kernel
   refine pw_loopI (κ := Nat) (fun (k : Nat) => k ≤ i ∧ downTo O x k = downTo O x i) (fun (k : Nat) => [(0, .d (intsD l)), (3, .ref 900 1 0 i i), (4, .int i), (5, .int k)]) (fun (k : Nat) => [(900, .row 1 (O.map D.int))]) (fun (k : Nat) => k) i ?_ ?_ ?_
   ·exact ⟨Nat.le_refl _, rfl⟩
   ·exact eL [] _ _ (by refine ⟨?_, ?_⟩ <;> (repeat' first | exact fmn | refine fmc ⟨(by first | rfl | (simp (disch := omega) only [go_sem, simprocAttr, inL]; first | done | omega | (congr 1; done))), ?_⟩); done)
   ·rintro k ⟨hk, hinv⟩
    rcases Nat.eq_zero_or_pos k with h0 | h0
    ·subst h0
     have en : ((0 : Nat) : Int).toNat = 0 := rfl
     have hmn : min 0 i = 0 := by omega
     have htO : List.take i (List.map D.int O) = List.map D.int O := List.take_of_length_le (by rw [List.length_map]; omega)
     have htl : (List.map D.int O).length = i := by rw [List.length_map, hil]
     repeat' first | refine pw_step rfl ?_ | refine pw_ret ?_ | refine pw_region (Nat.beq 31) hmix ?_ | (refine wpG_split rfl rfl (fun hc => ?_) (fun hc => ?_) <;> try simp only [hcL] at hc) | (refine pw_cond _ rfl rfl (fun hc => ?_) (fun hc => ?_) <;> (try simp only [hcL] at hc) <;> try omega) | simp (disch := omega) only [go_sem, simprocAttr, gi, en, roomy, hk, hil, List.drop_zero, List.nil_append, Nat.sub_zero, List.take_take, Nat.min_self, hmn, htO, htl] | (first | exact one_int _ | exact one_take _ _ | exact one_drop _ _ | exact one_drop2 _ _ _) | apply And.intro | omega | decide +kernel
     have hins : insA O x = x :: O := by rw [insA, hil, ← hinv]; simp [downTo]
     refine ⟨i + 1, ?_, eL [(900, 47)] _ _ (by refine ⟨?_, ?_⟩ <;> (repeat' first | exact fmn | refine fmc ⟨(by first | rfl | (simp (disch := omega) only [go_sem, simprocAttr, inL, his, hins, List.map_cons]; first | done | omega | (congr 1; done))), ?_⟩); done), ?_⟩
     ·omega
     ·omega
    ·obtain ⟨k, rfl⟩ : ∃ m, k = m + 1 := ⟨k - 1, by omega⟩
     have gk := at0_at (r := O) (i := k) (by omega)
     have ek : (((k + 1 : Nat) : Int) - 1).toNat = k := by omega
     have en : (((k + 1 : Nat) : Int)).toNat = k + 1 := by omega
     have hmn : min (k + 1) i = k + 1 := by omega
     have htl : (List.take (k + 1) (List.map D.int O)).length = k + 1 := by rw [List.length_take, List.length_map]; omega
     have htO : List.take (i - (k + 1)) (List.drop (k + 1) (List.map D.int O)) = List.drop (k + 1) (List.map D.int O) := List.take_of_length_le (by rw [List.length_drop, List.length_map]; omega)
     have htd : (List.drop (k + 1) (List.map D.int O)).length = i - (k + 1) := by rw [List.length_drop, List.length_map]; omega
     have hif : k + 1 + (i - (k + 1)) = i := by omega
     have ht2 : List.take (k + 1 + 1) (List.take (k + 1) (List.map D.int O) ++ [D.sc (Value.int IntKind.i64 x)]) = List.take (k + 1) (List.map D.int O) ++ [D.int x] := List.take_of_length_le (by rw [List.length_append, htl]; exact Nat.le_refl _)
     rw [downTo] at hinv
     by_cases hx : x < at0 O k
     ·rw [if_pos hx] at hinv
      repeat' first | refine pw_step rfl ?_ | refine pw_ret ?_ | refine wR ?_ | (refine wpG_split rfl rfl (fun hc => ?_) (fun hc => ?_) <;> try simp only [hcL] at hc) | (refine pw_cond _ rfl rfl (fun hc => ?_) (fun hc => ?_) <;> (try simp only [hcL] at hc) <;> try omega) | simp (disch := omega) only [go_sem, simprocAttr, gi, gk, ek] | apply And.intro | omega | decide +kernel
      refine ⟨k, ?_, eL [] _ _ (by refine ⟨?_, ?_⟩ <;> (repeat' first | exact fmn | refine fmc ⟨(by first | rfl | (simp (disch := omega) only [go_sem, simprocAttr, inL, Int.natCast_add, Int.natCast_one, Int.add_sub_cancel]; first | done | omega | (congr 1; done))), ?_⟩); done), ?_⟩
      ·exact ⟨by omega, hinv⟩
      ·omega
     ·rw [if_neg hx] at hinv
      repeat' first | refine pw_step rfl ?_ | refine pw_ret ?_ | refine pw_region (Nat.beq 31) hmix ?_ | (refine wpG_split rfl rfl (fun hc => ?_) (fun hc => ?_) <;> try simp only [hcL] at hc) | (refine pw_cond _ rfl rfl (fun hc => ?_) (fun hc => ?_) <;> (try simp only [hcL] at hc) <;> try omega) | simp (disch := omega) only [go_sem, simprocAttr, gi, gk, ek, en, roomy, hk, hil, List.drop_zero, List.nil_append, Nat.sub_zero, List.take_take, Nat.min_self, hmn, htO, htl, htd, hif, Nat.le_refl, List.length_append, List.length_cons, List.length_nil, Nat.zero_add] | (first | exact one_int _ | exact one_take _ _ | exact one_drop _ _ | exact one_drop2 _ _ _) | apply And.intro | omega | decide +kernel
      have hins : insA O x = O.take (k + 1) ++ [x] ++ O.drop (k + 1) := by rw [insA, hil, ← hinv]
      refine ⟨i + 1, ?_, eL [(900, 47)] _ _ (by refine ⟨?_, ?_⟩ <;> (repeat' first | exact fmn | refine fmc ⟨(by first | rfl | (simp (disch := omega) only [go_sem, simprocAttr, inL, his, hins, ht2, List.map_append, List.map_take, List.map_drop]; first | done | omega | (congr 1; done))), ?_⟩); done), ?_⟩
      ·omega
      ·omega
  ·have : i = l.length := by omega
   subst this
   repeat' first | refine pw_step rfl ?_ | refine pw_ret ?_ | refine wR ?_ | (refine wpG_split rfl rfl (fun hc => ?_) (fun hc => ?_) <;> try simp only [hcL] at hc) | (refine pw_cond _ rfl rfl (fun hc => ?_) (fun hc => ?_) <;> (try simp only [hcL] at hc) <;> try omega) | simp (disch := omega) only [go_sem, simprocAttr] | apply And.intro | omega | decide +kernel
   exact ret_ref (o := 900) rfl rfl (by simp [hil]) (List.take_of_length_le (by simp [hil]))
end Go.Proofs.Ythbcmebhpabpnaa
namespace Go.Proofs.Ythbcmebhpabpnaa
open Go Go.PS Go.Proofs
set_option maxRecDepth 100000
attribute [local irreducible] wpRun wpG CallsTo CallsM

theorem downTo_gt (o : List Int) (x : Int) : ∀ (k j : Nat), downTo o x k ≤ j → j < k → x < at0 o j
 | 0, j, _, h => by omega
 | k + 1, j, h1, h2 => by
  rw [downTo] at h1
  split at h1
  ·rename_i hx
   rcases Nat.lt_or_ge j k with h | h
   ·exact downTo_gt o x k j h1 h
   ·rw [show j = k by omega]; exact hx
  ·omega
theorem downTo_le_at (o : List Int) (x : Int) : ∀ (k p : Nat), downTo o x k = p + 1 → at0 o p ≤ x
 | 0, p, h => by rw [downTo] at h; omega
 | k + 1, p, h => by
  rw [downTo] at h
  split at h
  ·exact downTo_le_at o x k p h
  ·rename_i hx
   rw [show p = k by omega]; omega
theorem insA_perm (o : List Int) (x : Int) : (insA o x).Perm (x :: o) := by
 rw [insA, List.append_assoc, List.singleton_append]
 refine List.perm_middle.trans ?_
 rw [List.take_append_drop]
theorem insA_sorted {o : List Int} (h : o.Pairwise (· ≤ ·)) (x : Int) : (insA o x).Pairwise (· ≤ ·) := by
 have hlo : ∀ a, a ∈ o.take (downTo o x o.length) → a ≤ x := by
  intro a ha
  obtain ⟨j, hj⟩ := List.mem_iff_getElem?.1 ha
  rw [List.getElem?_take] at hj
  split at hj
  ·rename_i hjp
   obtain ⟨p, hp⟩ : ∃ p, downTo o x o.length = p + 1 := ⟨downTo o x o.length - 1, by omega⟩
   have h1 := downTo_le_at o x o.length p hp
   have h2 := downTo_le o x o.length
   have h3 := at0_at (r := o) (i := p) (by omega)
   rcases Nat.lt_or_ge j p with hl | hl
   ·have h4 := (List.getElem?_eq_some_iff.1 hj)
    obtain ⟨h5, h6⟩ := h4
    obtain ⟨h7, h8⟩ := List.getElem?_eq_some_iff.1 h3
    have := List.pairwise_iff_getElem.1 h j p h5 h7 hl
    rw [h6, h8] at this
    exact Int.le_trans this h1
   ·have : j = p := by omega
    subst this
    rw [h3] at hj
    cases hj
    exact h1
  ·cases hj
 have hhi : ∀ a, a ∈ o.drop (downTo o x o.length) → x ≤ a := by
  intro a ha
  obtain ⟨j, hj⟩ := List.mem_iff_getElem?.1 ha
  rw [List.getElem?_drop] at hj
  have hlt : downTo o x o.length + j < o.length := (List.getElem?_eq_some_iff.1 hj).1
  have h1 := downTo_gt o x o.length (downTo o x o.length + j) (by omega) hlt
  rw [at0_at hlt] at hj
  cases hj
  omega
 rw [insA]
 refine List.pairwise_append.2 ⟨List.pairwise_append.2 ⟨h.sublist (List.take_sublist _ _), List.pairwise_singleton _ _, fun a ha b hb => ?_⟩, h.sublist (List.drop_sublist _ _), fun a ha b hb => ?_⟩
 ·rw [List.mem_singleton.1 hb]; exact hlo a ha
 ·rcases List.mem_append.1 ha with ha | ha
  ·exact Int.le_trans (hlo a ha) (hhi b hb)
  ·rw [List.mem_singleton.1 ha]; exact hhi b hb
theorem insN_perm (l : List Int) : ∀ k, k ≤ l.length → (insN l k).Perm (l.take k)
 | 0, _ => by simp [insN]
 | k + 1, h => by
  rw [insN, take_snoc (at0_at (r := l) (i := k) (by omega))]
  exact (insA_perm _ _).trans (((insN_perm l k (by omega)).cons _).trans (List.perm_append_singleton _ _).symm)
theorem insN_sorted (l : List Int) : ∀ k, (insN l k).Pairwise (· ≤ ·)
 | 0 => List.Pairwise.nil
 | k + 1 => by rw [insN]; exact insA_sorted (insN_sorted l k) _
theorem sortL_sorted (l : List Int) : (sortL l).Pairwise (· ≤ ·) := by
 have h := List.pairwise_mergeSort (le := fun x y : Int => decide (x ≤ y)) (by intro a b c h1 h2; simp only [decide_eq_true_eq] at *; omega) (by intro a b; simp only [Bool.or_eq_true, decide_eq_true_eq]; omega) l
 exact h.imp fun h => by simpa using h
theorem sortL_perm (l : List Int) : (sortL l).Perm l := List.mergeSort_perm _ _
theorem insN_eq (l : List Int) : insN l l.length = sortL l := by
 refine List.Perm.eq_of_pairwise (le := (· ≤ ·)) (fun a b _ _ h1 h2 => Int.le_antisymm h1 h2) (insN_sorted l _) (sortL_sorted l) ?_
 have := insN_perm l l.length (Nat.le_refl _)
 rw [List.take_length] at this
 exact this.trans (sortL_perm l).symm
theorem rSort_spec (l : List Int) (hl : l.length ≤ 1000) : CallsTo Try.prog 67 [intsD l] (intsD (sortL l)) := insN_eq l ▸ rSorted_spec l hl
end Go.Proofs.Ythbcmebhpabpnaa
namespace Go.Proofs.Ythbcmebhpabpnaa
open Go Go.PS Go.Proofs
set_option maxRecDepth 100000
attribute [local irreducible] wpRun wpG CallsTo CallsM

theorem plain_spec (a : Lv) (hn : a.2.1.length ≤ 1000) (hl : ∀ y, y ∈ a.2.1 → y.length ≤ 1000) : CallsTo Try.prog 45 [lvD a] (lvD (sortLv a)) := by
 obtain ⟨n, ls, ar, cs⟩ := a
 dsimp only at hn hl
 refine callsTo_of Try.func45 rfl (by decide +kernel) (Nat.le_of_ble_eq_true rfl) ?_
 intro hat B X w0
 repeat' first | refine pw_step rfl ?_ | refine pw_ret ?_ | refine wR ?_ | (refine wpG_split rfl rfl (fun hc => ?_) (fun hc => ?_) <;> try simp only [hcL] at hc) | (refine pw_cond _ rfl rfl (fun hc => ?_) (fun hc => ?_) <;> (try simp only [hcL] at hc) <;> try omega) | simp (disch := omega) only [go_sem, simprocAttr] | apply And.intro | omega | decide +kernel
 refine pw_ent _ (ent_nilC 3 1 901 1 rfl rfl rfl) ?_
 refine pw_loopI (κ := Nat) (fun (k : Nat) => k ≤ ls.length) (fun (k : Nat) => [(1, .ptr 1 0 0 0), (2, .ptr 2 0 0 0), (3, .ptr 3 0 0 0), (4, .int k)]) (fun (k : Nat) => [(1, .cells [.int n, .d (listsD ls), .d (arcsD ar), .d (listsD cs)]), (2, .cells [.int 0, .nilS, .nilS, .nilS]), (3, .cells [.int n, .ref 901 1 0 k k, .d (arcsD ar), .d (listsD cs)]), (901, .row 1 (((ls.map sortL).take k).map intsD))]) (fun (k : Nat) => ls.length - k) 0 ?_ ?_ ?_
 ·exact Nat.zero_le _
 ·exact eL [] _ _ (by refine ⟨?_, ?_⟩ <;> (repeat' first | exact fmn | refine fmc ⟨(by first | rfl | (simp (disch := omega) only [go_sem, simprocAttr, inL, List.take_zero, List.map_nil]; first | done | omega | (congr 1; done))), ?_⟩); done)
 ·intro k hk
  rcases Nat.lt_or_ge k ls.length with hlt | hge
  ·obtain ⟨p, hp⟩ := get_some hlt
   have hpl := hl p (List.mem_of_getElem? hp)
   have hs := rSort_spec p hpl
   have hm : (ls.map sortL)[k]? = some (sortL p) := by rw [List.getElem?_map, hp]; rfl
   have hts := take_snoc hm
   have hlk : (((ls.map sortL).take k).map intsD).length = k := by rw [List.length_map, List.length_take, List.length_map]; omega
   have htk : List.take k (((ls.map sortL).take k).map intsD) = ((ls.map sortL).take k).map intsD := List.take_of_length_le (by rw [hlk]; exact Nat.le_refl _)
   repeat' first | refine pw_step rfl ?_ | refine pw_ret ?_ | refine wR ?_ | (refine rc (hs) rfl ?_ ?_; (· first | rfl | simp (disch := omega) only [go_sem, simprocAttr, hp, hlk, roomy])) | (refine wpG_split rfl rfl (fun hc => ?_) (fun hc => ?_) <;> try simp only [hcL] at hc) | (refine pw_cond _ rfl rfl (fun hc => ?_) (fun hc => ?_) <;> (try simp only [hcL] at hc) <;> try omega) | simp (disch := omega) only [go_sem, simprocAttr, hp, hlk, roomy] | apply And.intro | omega | decide +kernel
   refine ⟨k + 1, ?_, eL [(901, 28)] _ _ (by refine ⟨?_, ?_⟩ <;> (repeat' first | exact fmn | refine fmc ⟨(by first | rfl | (simp (disch := omega) only [go_sem, simprocAttr, inL, hts, List.map_append, htk]; first | done | omega | (congr 1; done))), ?_⟩); done), ?_⟩
   ·omega
   ·omega
  ·have : k = ls.length := by omega
   subst this
   have htl : ((ls.map sortL).take ls.length) = ls.map sortL := List.take_of_length_le (by rw [List.length_map]; exact Nat.le_refl _)
   try dsimp only
   rw [htl]
   repeat' first | refine pw_step rfl ?_ | refine pw_ret ?_ | refine wR ?_ | (refine wpG_split rfl rfl (fun hc => ?_) (fun hc => ?_) <;> try simp only [hcL] at hc) | (refine pw_cond _ rfl rfl (fun hc => ?_) (fun hc => ?_) <;> (try simp only [hcL] at hc) <;> try omega) | simp (disch := omega) only [go_sem, simprocAttr] | apply And.intro | omega | decide +kernel
   refine ⟨_, _, _, _, rfl, ?_⟩
   simp (disch := omega) only [go_sem, simprocAttr, toD, List.length_map]
   rw [List.take_of_length_le (by rw [List.length_map, List.length_map]; exact Nat.le_refl _)]
   rfl
end Go.Proofs.Ythbcmebhpabpnaa
namespace Go.Proofs.Ythbcmebhpabpnaa
open Go Go.PS Go.Proofs
set_option maxRecDepth 100000
attribute [local irreducible] wpRun wpG CallsTo CallsM

theorem ite_min (a b : Int) : (if b < a then b else a) = min a b := by omega
end Go.Proofs.Ythbcmebhpabpnaa
namespace Go.Proofs.Ythbcmebhpabpnaa
open Go Go.PS Go.Proofs
set_option maxRecDepth 100000
attribute [local irreducible] wpRun wpG CallsTo CallsM

def fillRow (g : Nat → Int) (n k : Nat) : List Int := (List.range n).map fun u => if u < k then g u else 0
theorem fillRow_len (g : Nat → Int) (n k : Nat) : (fillRow g n k).length = n := by simp [fillRow]
theorem fillRow_get {g : Nat → Int} {n k u : Nat} (h : u < n) : (fillRow g n k)[u]? = some (if u < k then g u else 0) := by simp [fillRow, h]
theorem fillRow_zero (g : Nat → Int) (n : Nat) : (fillRow g n 0).map D.int = List.replicate n (D.int 0) := by
 rw [List.eq_replicate_iff]
 refine ⟨by simp [fillRow], fun b hb => ?_⟩
 simp only [fillRow, List.map_map, List.mem_map] at hb
 obtain ⟨u, _, rfl⟩ := hb
 simp
theorem fillRow_step {g : Nat → Int} {n k : Nat} (h : k < n) : (fillRow g n k).set k (g k) = fillRow g n (k + 1) := by
 refine List.ext_getElem? fun u => ?_
 by_cases hu : u < n
 ·rw [fillRow_get hu, List.getElem?_set, fillRow_get hu, fillRow_len]
  by_cases c : k = u
  ·subst c; rw [if_pos rfl, if_pos h, if_pos (by omega)]
  ·rw [if_neg c]
   by_cases c2 : u < k
   ·rw [if_pos c2, if_pos (by omega)]
   ·rw [if_neg c2, if_neg (by omega)]
 ·rw [List.getElem?_eq_none (by rw [List.length_set, fillRow_len]; omega), List.getElem?_eq_none (by rw [fillRow_len]; omega)]
theorem fillRow_end (g : Nat → Int) (n : Nat) : fillRow g n n = (List.range n).map g := by
 rw [fillRow]
 refine List.map_congr_left fun u hu => ?_
 rw [if_pos (List.mem_range.1 hu)]

theorem at_elem {ds cs : List D} {l : List D} {m : List D} {k : Nat} (i j : Nat) (h : ∃ w X vs, AtAll w X ds vs) (hi : ds[i]? = some (.ag cs)) (hj : cs[j]? = some (.sl l)) (hk : l[k]? = some (.sl m)) : m.length ≤ 9223372036854775807 := by
 obtain ⟨w, X, vs, h1, h2⟩ := h
 have hlt : i < vs.size := by have := (List.getElem?_eq_some_iff.1 hi).1; omega
 have := h2 i _ _ hi (Array.getElem?_eq_getElem hlt)
 generalize vs[i] = v at this
 cases this with
 | ag _ arr hsz hone hat =>
  have hlt : j < arr.size := by have := (List.getElem?_eq_some_iff.1 hj).1; omega
  have := hat j _ _ hj (Array.getElem?_eq_getElem hlt)
  generalize arr[j] = v at this
  cases this with
  | slnil => cases hk
  | sl _ b off cap sz hl hc hsz vals hv he =>
   have := he k _ 0 _ hk rfl
   generalize vals k 0 = v at this
   cases this with
   | slnil => simp
   | sl _ b off cap sz hl hc => simp only [maxLen] at hc; omega
def endsA (c : List Int) : Arc := (at0 c 0, at0 c ((c.length : Int) - 1))
def srcG (a : Lv) : Gr := (a.1, a.2.2.2.map endsA)
def ranksV (a : Lv) : List Int := (List.range a.1.toNat).map fun v : Nat => layI a.2.1 v
def headOk (a : Lv) : Bool := decide (0 ≤ a.1 ∧ a.1 ≤ 64 ∧ a.2.2.2.length ≤ 256 ∧ a.2.1.length ≤ 256)
def shortC (c : List Int) : Bool := decide (c.length < 2)
def lostV (a : Lv) (v : Nat) : Bool := decide (layI a.2.1 v < 0)
def foundOk (a : Lv) : Bool := !(List.range a.1.toNat).any (lostV a)
def validF (a : Lv) : Bool := headOk a && !a.2.2.2.any shortC && foundOk a && decide ((buildF (srcG a) (ranksV a)).2 = 0) && sameLv (sortLv a) (buildF (srcG a) (ranksV a)).1
def wide (a : Lv) : Prop := ∀ y, y ∈ a.2.1 → y.length * 8 ≤ 140737488351232
set_option maxHeartbeats 4000000 in
theorem LvValid_spec (a : Lv) (hw : wide a) : CallsTo Try.prog 30 [lvD a] (.bool (validF a)) := by
 have hfd := find_spec a
 have hbd := Build_spec (srcG a) (ranksV a)
 have hsd := sorted_spec a
 have hsm := Same_spec (sortLv a) (buildF (srcG a) (ranksV a)).1
 obtain ⟨m, ls, ar, cs⟩ := a
 refine callsTo_of Try.func30 rfl (by decide +kernel) (Nat.le_of_ble_eq_true rfl) ?_
 intro hat B X w0
 have h1 := at_len2 0 1 hat rfl rfl
 have h2 := at_len2 0 2 hat rfl rfl
 have h3 := at_len2 0 3 hat rfl rfl
 rw [List.length_map] at h1 h2 h3
 dsimp only at h1 h2 h3
 repeat' first | refine pw_step rfl ?_ | refine pw_ret ?_ | refine wR ?_ | (refine wpG_split rfl rfl (fun hc => ?_) (fun hc => ?_) <;> try simp only [hcL] at hc) | (refine pw_cond _ rfl rfl (fun hc => ?_) (fun hc => ?_) <;> (try simp only [hcL] at hc) <;> try omega) | simp (disch := omega) only [go_sem, simprocAttr, List.append_eq] | apply And.intro | omega | decide +kernel
 all_goals try (refine bool_some ?_; simp [validF, headOk]; omega)
 obtain ⟨n, rfl⟩ : ∃ n : Nat, m = n := ⟨m.toNat, by omega⟩
 have hhd : headOk ((n : Int), ls, ar, cs) = true := by simp [headOk]; omega
 have hn64 : n ≤ 64 := by omega
 have hc256 : cs.length ≤ 256 := by omega
 have hl256 : ls.length ≤ 256 := by omega
 refine pw_ent _ (ent_nilC 3 1 901 2 rfl rfl rfl) ?_
 refine pw_loopI (κ := Nat) (fun (k : Nat) => k ≤ cs.length ∧ ∀ (j : Nat) y, j < k → cs[j]? = some y → shortC y = false) (fun (k : Nat) => [(1, .ptr 1 0 0 0), (3, .ptr 3 0 0 0), (34, .d (listsD cs)), (35, .int cs.length), (36, .int k)]) (fun (k : Nat) => [(1, .cells [.int n, .d (listsD ls), .d (arcsD ar), .d (listsD cs)]), (3, .cells [.int n, .ref 901 2 0 k k]), (901, .row 2 (((cs.take k).map endsA).map arcD))]) (fun (k : Nat) => cs.length - k) 0 ?_ ?_ ?_
 ·exact ⟨Nat.zero_le _, fun j y h => by omega⟩
 ·exact eL [] _ _ (by refine ⟨?_, ?_⟩ <;> (repeat' first | exact fmn | refine fmc ⟨(by first | rfl | (simp (disch := omega) only [go_sem, simprocAttr, inL, List.take_zero, List.map_nil]; first | done | omega | (congr 1; done))), ?_⟩); done)
 ·rintro k ⟨hk, hinv⟩
  rcases Nat.lt_or_ge k cs.length with hlt | hge
  ·obtain ⟨c, hc0⟩ := get_some hlt
   by_cases hsc : c.length < 2
   ·repeat' first | refine pw_step rfl ?_ | refine pw_ret ?_ | refine wR ?_ | (refine wpG_split rfl rfl (fun hc => ?_) (fun hc => ?_) <;> try simp only [hcL] at hc) | (refine pw_cond _ rfl rfl (fun hc => ?_) (fun hc => ?_) <;> (try simp only [hcL] at hc) <;> try omega) | simp (disch := omega) only [go_sem, simprocAttr, hc0] | apply And.intro | omega | decide +kernel
    refine bool_some ?_
    have : cs.any shortC = true := any_at hc0 (by simpa [shortC] using hsc)
    simp [validF, this]
   ·have hcl : c.length ≤ 9223372036854775807 := by have := at_elem (m := c.map D.int) (k := k) 0 3 hat rfl rfl (by rw [List.getElem?_map, hc0]; rfl); rwa [List.length_map] at this
    have e1 := at0_at (r := c) (i := 0) (by omega)
    have e2 := at0_get (r := c) (v := (c.length : Int) - 1) (by omega) (by omega)
    have hts := take_snoc hc0
    have hlk : (((cs.take k).map endsA).map arcD).length = k := by rw [List.length_map, List.length_map, List.length_take]; omega
    have htk : List.take k (((cs.take k).map endsA).map arcD) = ((cs.take k).map endsA).map arcD := List.take_of_length_le (by rw [hlk]; exact Nat.le_refl _)
    repeat' first | refine pw_step rfl ?_ | refine pw_ret ?_ | refine wR ?_ | (refine wpG_split rfl rfl (fun hc => ?_) (fun hc => ?_) <;> try simp only [hcL] at hc) | (refine pw_cond _ rfl rfl (fun hc => ?_) (fun hc => ?_) <;> (try simp only [hcL] at hc) <;> try omega) | simp (disch := omega) only [go_sem, simprocAttr, hc0, e1, e2, roomy, hlk] | apply And.intro | omega | decide +kernel
    refine ⟨k + 1, ?_, eL [(901, 56)] _ _ (by refine ⟨?_, ?_⟩ <;> (repeat' first | exact fmn | refine fmc ⟨(by first | rfl | (simp (disch := omega) only [go_sem, simprocAttr, inL, hts, List.map_append, htk]; first | done | omega | (congr 1; done))), ?_⟩); done), ?_⟩
    ·exact ⟨by omega, upto_succ hinv hc0 (by simpa [shortC] using hsc)⟩
    ·omega
  ·have : k = cs.length := by omega
   subst this
   have hsc : cs.any shortC = false := any_no fun j y hj => hinv j y hj
   try dsimp only
   rw [List.take_length]
   repeat' first | refine pw_step rfl ?_ | refine pw_region (Nat.beq 61) hmix ?_ | (refine wpG_split rfl rfl (fun hc => ?_) (fun hc => ?_) <;> try simp only [hcL] at hc) | (refine pw_cond _ rfl rfl (fun hc => ?_) (fun hc => ?_) <;> (try simp only [hcL] at hc) <;> try omega) | simp (disch := omega) only [go_sem, simprocAttr] | apply And.intro | omega | decide +kernel
   refine pw_loopI (κ := Nat) (fun (v : Nat) => v ≤ n ∧ ∀ u, u < v → lostV (n, ls, ar, cs) u = false) (fun (v : Nat) => [(1, .ptr 1 0 0 0), (3, .ptr 3 0 0 0), (6, .ref 61 1 0 n n), (63, .int n), (64, .int v)]) (fun (v : Nat) => [(1, .cells [.int n, .d (listsD ls), .d (arcsD ar), .d (listsD cs)]), (3, .cells [.int n, .ref 901 2 0 cs.length cs.length]), (901, .row 2 ((cs.map endsA).map arcD)), (61, .row 1 ((fillRow (fun u => layI ls u) n v).map D.int))]) (fun (v : Nat) => n - v) 0 ?_ ?_ ?_
   ·exact ⟨Nat.zero_le _, fun u h => by omega⟩
   ·exact eL [] _ _ (by refine ⟨?_, ?_⟩ <;> (repeat' first | exact fmn | refine fmc ⟨(by first | rfl | (simp (disch := omega) only [go_sem, simprocAttr, inL, fillRow_zero]; first | done | omega | (congr 1; done))), ?_⟩); done)
   ·rintro v ⟨hv, hinv2⟩
    have hfl := fillRow_len (fun u => layI ls u) n v
    rcases Nat.lt_or_ge v n with hlt | hge
    ·have hg := fillRow_get (g := fun u => layI ls u) (k := v) hlt
     have hst := fillRow_step (g := fun u => layI ls u) hlt
     have hsm : (List.map D.int (fillRow (fun u => layI ls u) n v)).set v (D.sc (Value.int IntKind.i64 (layI ls v))) = List.map D.int (fillRow (fun u => layI ls u) n (v + 1)) := by rw [← hst, List.map_set]
     have hfl2 := fillRow_len (fun u => layI ls u) n (v + 1)
     have hg2 := fillRow_get (g := fun u => layI ls u) (k := v + 1) hlt
     rw [if_pos (by omega)] at hg2
     have hf := hfd v
     dsimp only at hf
     by_cases hn : layI ls v < 0
     ·have hfo : foundOk ((n : Int), ls, ar, cs) = false := by
       rw [foundOk, Bool.not_eq_false', List.any_eq_true]
       exact ⟨v, by simpa using hlt, by simpa [lostV] using hn⟩
      repeat' first | refine pw_step rfl ?_ | refine pw_ret ?_ | refine wR ?_ | (refine rc (hf) rfl ?_ ?_; (· first | rfl | simp (disch := omega) only [go_sem, simprocAttr, hg, hsm, hg2, hfl, hfl2])) | (refine wpG_split rfl rfl (fun hc => ?_) (fun hc => ?_) <;> try simp only [hcL] at hc) | (refine pw_cond _ rfl rfl (fun hc => ?_) (fun hc => ?_) <;> (try simp only [hcL] at hc) <;> try omega) | simp (disch := omega) only [go_sem, simprocAttr, hg, hsm, hg2, hfl, hfl2] | apply And.intro | omega | decide +kernel
      refine bool_some ?_
      simp [validF, hfo]
     ·repeat' first | refine pw_step rfl ?_ | refine pw_ret ?_ | refine wR ?_ | (refine rc (hf) rfl ?_ ?_; (· first | rfl | simp (disch := omega) only [go_sem, simprocAttr, hg, hsm, hg2, hfl, hfl2])) | (refine wpG_split rfl rfl (fun hc => ?_) (fun hc => ?_) <;> try simp only [hcL] at hc) | (refine pw_cond _ rfl rfl (fun hc => ?_) (fun hc => ?_) <;> (try simp only [hcL] at hc) <;> try omega) | simp (disch := omega) only [go_sem, simprocAttr, hg, hsm, hg2, hfl, hfl2] | apply And.intro | omega | decide +kernel
      refine ⟨v + 1, ?_, eL [] _ _ (by refine ⟨?_, ?_⟩ <;> (repeat' first | exact fmn | refine fmc ⟨(by first | rfl | (simp (disch := omega) only [go_sem, simprocAttr, inL, hsm]; first | done | omega | (congr 1; done))), ?_⟩); done), ?_⟩
      ·refine ⟨by omega, fun u hu => ?_⟩
       rcases Nat.lt_succ_iff_lt_or_eq.1 hu with h | rfl
       ·exact hinv2 u h
       ·simpa [lostV] using hn
      ·omega
    ·have : v = n := by omega
     subst this
     have hfo : foundOk ((v : Int), ls, ar, cs) = true := by
      rw [foundOk, Bool.not_eq_true', List.any_eq_false]
      intro u hu
      rw [hinv2 u (by simpa using hu)]
      decide
     have hre : fillRow (fun u => layI ls u) v v = ranksV ((v : Int), ls, ar, cs) := by rw [fillRow_end, ranksV]; rfl
     have hsg : srcG ((v : Int), ls, ar, cs) = ((v : Int), cs.map endsA) := rfl
     try dsimp only
     rw [hre]
     rw [hsg] at hbd hsm
     have hvf : validF ((v : Int), ls, ar, cs) = (decide ((buildF ((v : Int), cs.map endsA) (ranksV ((v : Int), ls, ar, cs))).2 = 0) && sameLv (sortLv ((v : Int), ls, ar, cs)) (buildF ((v : Int), cs.map endsA) (ranksV ((v : Int), ls, ar, cs))).1) := by rw [validF, hhd, hsc, hfo, hsg]; simp
     rw [hvf]
     have hrl : (ranksV ((v : Int), ls, ar, cs)).length = v := by simp [ranksV]
     generalize ranksV ((v : Int), ls, ar, cs) = R at *
     generalize buildF ((v : Int), cs.map endsA) R = BF at *
     obtain ⟨b, e⟩ := BF
     have hsd1 := hsd (by simpa using (show ls.length ≤ 1000 by omega)) hw
     generalize sortLv ((v : Int), ls, ar, cs) = S at *
     dsimp only at hbd hsm ⊢
     have htA : ((cs.map endsA).map arcD).take cs.length = (cs.map endsA).map arcD := List.take_of_length_le (by simp)
     have htR : (R.map D.int).take v = R.map D.int := List.take_of_length_le (by simp [hrl])
     have hlA : ((cs.map endsA).map arcD).length = cs.length := by simp
     have hlR : (R.map D.int).length = v := by simp [hrl]
     refine pw_ent _ (ent_freeze 901 2 ((cs.map endsA).map arcD) rfl (noGone_of _ rfl) (by decide)) ?_
     refine eR [] [(1, .ptr 1 0 0 0), (3, .ptr 3 0 0 0), (6, .ref 61 1 0 v v), (63, .int v), (64, .int v)] [(1, .cells [.int v, .d (listsD ls), .d (arcsD ar), .d (listsD cs)]), (3, .cells [.int v, .d (arcsD (cs.map endsA))]), (61, .row 1 (R.map D.int))] (by refine ⟨?_, ?_⟩ <;> (repeat' first | exact fmn | refine fmc ⟨(by first | rfl | (simp (disch := omega) only [go_sem, simprocAttr, inL, List.drop_zero, htA, hlA, Nat.le_refl]; first | done | omega | (congr 1; done))), ?_⟩); done) ?_
     refine pw_ent _ (ent_freeze 61 1 (R.map D.int) rfl (noGone_of _ rfl) (by decide)) ?_
     by_cases he : e = 0
     ·subst he
      rcases hsv : sameLv S b with _ | _ <;> rw [hsv] at hsm
      all_goals
       repeat' first | refine pw_step rfl ?_ | refine pw_ret ?_ | refine wR ?_ | (refine rc (hbd) rfl ?_ ?_; (· first | rfl | simp (disch := omega) only [go_sem, simprocAttr, htR, hlR, List.drop_zero])) | (refine rc (hsd1) rfl ?_ ?_; (· first | rfl | simp (disch := omega) only [go_sem, simprocAttr, htR, hlR, List.drop_zero])) | (refine rc (hsm) rfl ?_ ?_; (· first | rfl | simp (disch := omega) only [go_sem, simprocAttr, htR, hlR, List.drop_zero])) | (refine wpG_split rfl rfl (fun hc => ?_) (fun hc => ?_) <;> try simp only [hcL] at hc) | (refine pw_cond _ rfl rfl (fun hc => ?_) (fun hc => ?_) <;> (try simp only [hcL] at hc) <;> try omega) | simp (disch := omega) only [go_sem, simprocAttr, htR, hlR, List.drop_zero] | apply And.intro | omega | decide +kernel
       refine bool_some ?_
       simp [hsv]
     ·repeat' first | refine pw_step rfl ?_ | refine pw_ret ?_ | refine wR ?_ | (refine rc (hbd) rfl ?_ ?_; (· first | rfl | simp (disch := omega) only [go_sem, simprocAttr, he, htR, hlR, List.drop_zero])) | (refine rc (hsd1) rfl ?_ ?_; (· first | rfl | simp (disch := omega) only [go_sem, simprocAttr, he, htR, hlR, List.drop_zero])) | (refine rc (hsm) rfl ?_ ?_; (· first | rfl | simp (disch := omega) only [go_sem, simprocAttr, he, htR, hlR, List.drop_zero])) | (refine wpG_split rfl rfl (fun hc => ?_) (fun hc => ?_) <;> try simp only [hcL] at hc) | (refine pw_cond _ rfl rfl (fun hc => ?_) (fun hc => ?_) <;> (try simp only [hcL] at hc) <;> try omega) | simp (disch := omega) only [go_sem, simprocAttr, he, htR, hlR, List.drop_zero] | apply And.intro | omega | decide +kernel
      refine bool_some ?_
      simp [he]
end Go.Proofs.Ythbcmebhpabpnaa
namespace Go.Proofs.Ythbcmebhpabpnaa
open Go Go.PS Go.Proofs
set_option maxRecDepth 100000
attribute [local irreducible] wpRun wpG CallsTo CallsM

def tot : List (List Int) → Nat
 | [] => 0
 | y :: l => y.length + tot l
theorem tot_append (l m : List (List Int)) : tot (l ++ m) = tot l + tot m := by
 induction l with
 | nil => simp [tot]
 | cons y l ih => simp only [List.cons_append, tot, ih]; omega
theorem tot_snoc {l : List (List Int)} {k : Nat} {y : List Int} (h : l[k]? = some y) : tot (l.take (k + 1)) = tot (l.take k) + y.length := by
 rw [take_snoc h, tot_append]; simp [tot]
theorem tot_take_le (l : List (List Int)) (k : Nat) : tot (l.take k) ≤ tot l := by
 conv => rhs; rw [← List.take_append_drop k l]
 rw [tot_append]; omega
theorem tot_flat (l : List (List Int)) : l.flatten.length = tot l := by
 induction l with
 | nil => rfl
 | cons y l ih => simp only [List.flatten_cons, List.length_append, tot, ih]
theorem tot_mem {l : List (List Int)} {y : List Int} (h : y ∈ l) : y.length ≤ tot l := by
 induction l with
 | nil => cases h
 | cons x l ih =>
  rw [tot]
  rcases List.mem_cons.1 h with rfl | h
  ·omega
  ·have := ih h; omega
def good (c : Nat) (ls : List (List Int)) : Bool := ls.flatten.all (fun v => decide (0 ≤ v ∧ v < c)) && decide ls.flatten.Nodup
def rowR (c : Nat) (ls : List (List Int)) : List Int := (List.range c).map fun v : Nat => layI ls v
def ranksF (ls : List (List Int)) : Option (List Int) := if 256 < ls.length ∨ 512 < tot ls then none else if good (tot ls) ls then some (rowR (tot ls) ls) else none
theorem rowR_len (c : Nat) (ls : List (List Int)) : (rowR c ls).length = c := by simp [rowR]
theorem rowR_get {c v : Nat} (h : v < c) (ls : List (List Int)) : (rowR c ls)[v]? = some (layI ls v) := by simp [rowR, h]
theorem layI_mem {ls : List (List Int)} {v : Int} : 0 ≤ layI ls v ↔ v ∈ ls.flatten := by
 have h := idx_any (fun y : List Int => y.any fun x => decide (x = v)) ls
 have : decide (0 ≤ layI ls v) = true ↔ v ∈ ls.flatten := by
  rw [layI, h, List.any_eq_true, List.mem_flatten]
  constructor
  ·rintro ⟨y, h1, h2⟩
   obtain ⟨x, h3, h4⟩ := List.any_eq_true.1 h2
   have : x = v := by simpa using h4
   exact ⟨y, h1, this ▸ h3⟩
  ·rintro ⟨y, h1, h2⟩
   exact ⟨y, h1, List.any_eq_true.2 ⟨v, h2, by simp⟩⟩
 simpa using this
theorem layI_no {ls : List (List Int)} {v : Int} (h : v ∉ ls.flatten) : layI ls v = -1 := by
 have h2 : ¬ 0 ≤ layI ls v := fun h1 => h (layI_mem.1 h1)
 unfold layI at h2 ⊢
 unfold idxI at h2 ⊢
 split
 ·rename_i i hi; rw [hi] at h2; dsimp only at h2; omega
 ·rfl
theorem layI_snoc (ls : List (List Int)) (y : List Int) (v : Int) : layI (ls ++ [y]) v = if v ∈ ls.flatten then layI ls v else if v ∈ y then (ls.length : Int) else -1 := by
 by_cases h1 : v ∈ ls.flatten
 ·rw [if_pos h1]
  have h2 := layI_mem.2 h1
  unfold layI at h2 ⊢
  rw [List.findIdx?_append]
  cases hf : ls.findIdx? (fun y => y.any fun x => decide (x = v)) with
  | none => rw [hf] at h2; exact absurd h2 (by decide)
  | some i => rfl
 ·rw [if_neg h1]
  have h2 := layI_no h1
  by_cases h3 : v ∈ y
  ·rw [if_pos h3]
   unfold layI at h2 ⊢
   rw [List.findIdx?_append]
   cases hf : ls.findIdx? (fun y => y.any fun x => decide (x = v)) with
   | some i => rw [hf] at h2; simp only [idxI] at h2; omega
   | none =>
    have : (y.any fun x => decide (x = v)) = true := List.any_eq_true.2 ⟨v, h3, by simp⟩
    rw [List.findIdx?_cons, if_pos this]
    simp [idxI]
  ·rw [if_neg h3]
   refine layI_no ?_
   rw [List.flatten_append, List.mem_append]
   rintro (h | h)
   ·exact h1 h
   ·exact h3 (by simpa using h)
def pre (ls : List (List Int)) (i k : Nat) : List (List Int) := ls.take i ++ [((ls[i]?).getD []).take k]
theorem flat_pre (ls : List (List Int)) {i k : Nat} {y : List Int} (h : ls[i]? = some y) : ls.flatten = (pre ls i k).flatten ++ (y.drop k ++ (ls.drop (i + 1)).flatten) := by
 have hd : ls.drop i = y :: ls.drop (i + 1) := by
  obtain ⟨hi, he⟩ := List.getElem?_eq_some_iff.1 h
  rw [← he]; exact List.drop_eq_getElem_cons hi
 conv => lhs; rw [← List.take_append_drop i ls, hd, List.flatten_append, List.flatten_cons]
 rw [pre, h, List.flatten_append]
 simp only [Option.getD_some, List.flatten_cons, List.flatten_nil, List.append_nil]
 conv => lhs; rw [← List.take_append_drop k y]
 simp only [List.append_assoc]
theorem flat_step (ls : List (List Int)) {i k : Nat} {y : List Int} {v : Int} (h : ls[i]? = some y) (hv : y[k]? = some v) : (pre ls i (k + 1)).flatten = (pre ls i k).flatten ++ [v] := by
 simp only [pre, h, Option.getD_some, List.flatten_append, List.flatten_cons, List.flatten_nil, List.append_nil, take_snoc hv, List.append_assoc]
theorem rowR_step {c : Nat} (ls : List (List Int)) {i k : Nat} {y : List Int} {v : Int} (h : ls[i]? = some y) (hv : y[k]? = some v) (h0 : 0 ≤ v) (h1 : layI (pre ls i k) v < 0) :
  (rowR c (pre ls i k)).set v.toNat (i : Int) = rowR c (pre ls i (k + 1)) := by
 have hi : (ls.take i).length = i := by rw [List.length_take]; have := (List.getElem?_eq_some_iff.1 h).1; omega
 refine List.ext_getElem? fun u => ?_
 by_cases hu : u < c
 ·rw [rowR_get hu, List.getElem?_set, rowR_get hu, rowR_len]
  simp only [pre, h, Option.getD_some, layI_snoc, take_snoc hv, hi, List.mem_append, List.mem_singleton] at h1 ⊢
  by_cases e : v.toNat = u
  ·subst e
   have ev : ((v.toNat : Nat) : Int) = v := by omega
   rw [if_pos rfl, if_pos hu, ev]
   split at h1
   ·rename_i hm; have := layI_mem.2 hm; omega
   ·rename_i hm
    rw [if_neg hm, if_pos (.inr rfl)]
  ·rw [if_neg e]
   have : ¬ (u : Int) = v := by omega
   simp [this]
 ·rw [List.getElem?_eq_none (by rw [List.length_set, rowR_len]; omega), List.getElem?_eq_none (by rw [rowR_len]; omega)]
theorem layI_pre0 (ls : List (List Int)) (i : Nat) (v : Int) : layI (pre ls i 0) v = layI (ls.take i) v := by
 rw [pre, layI_snoc]
 by_cases h : v ∈ (ls.take i).flatten
 ·rw [if_pos h]
 ·rw [if_neg h, List.take_zero, if_neg List.not_mem_nil, layI_no h]
theorem rowR_pre0 (c : Nat) (ls : List (List Int)) (i : Nat) : rowR c (pre ls i 0) = rowR c (ls.take i) := by
 simp only [rowR, layI_pre0]
theorem pre_full {ls : List (List Int)} {i : Nat} {y : List Int} (h : ls[i]? = some y) : pre ls i y.length = ls.take (i + 1) := by
 rw [pre, h, Option.getD_some, List.take_length, take_snoc h]
theorem good_pre0 {c : Nat} {ls : List (List Int)} {i : Nat} : good c (pre ls i 0) = good c (ls.take i) := by
 simp [good, pre]
theorem good_iff {c : Nat} {ls : List (List Int)} : good c ls = true ↔ (∀ v ∈ ls.flatten, 0 ≤ v ∧ v < c) ∧ ls.flatten.Nodup := by
 simp only [good, Bool.and_eq_true, List.all_eq_true, decide_eq_true_eq]
theorem good_step {c : Nat} {ls : List (List Int)} {i k : Nat} {y : List Int} {v : Int} (h : ls[i]? = some y) (hv : y[k]? = some v) (hg : good c (pre ls i k) = true) (h0 : 0 ≤ v) (h2 : v < c) (h1 : layI (pre ls i k) v < 0) :
  good c (pre ls i (k + 1)) = true := by
 rw [good_iff] at hg ⊢
 rw [flat_step ls h hv]
 have hn : v ∉ (pre ls i k).flatten := fun hm => by have := layI_mem.2 hm; omega
 refine ⟨fun u hu => ?_, List.nodup_append.2 ⟨hg.2, by simp, fun a ha b hb => ?_⟩⟩
 ·rcases List.mem_append.1 hu with hu | hu
  ·exact hg.1 u hu
  ·rw [List.mem_singleton.1 hu]; exact ⟨h0, h2⟩
 ·rw [List.mem_singleton.1 hb]; rintro rfl; exact hn ha
theorem bad_step {c : Nat} {ls : List (List Int)} {i k : Nat} {y : List Int} {v : Int} (h : ls[i]? = some y) (hv : y[k]? = some v) (hb : v < 0 ∨ (c : Int) ≤ v ∨ 0 ≤ layI (pre ls i k) v) : good c ls = false := by
 rw [Bool.eq_false_iff]
 intro hg
 rw [good_iff] at hg
 have hd : y.drop k = v :: y.drop (k + 1) := by
  obtain ⟨hi, he⟩ := List.getElem?_eq_some_iff.1 hv
  rw [← he]; exact List.drop_eq_getElem_cons hi
 have hf := flat_pre ls (k := k) h
 rw [hd] at hf
 rw [hf] at hg
 have hm := hg.1 v (by simp)
 rcases hb with hb | hb | hb
 ·omega
 ·omega
 ·exact (List.nodup_append.1 hg.2).2.2 v (layI_mem.1 hb) v (by simp) rfl
theorem rowR_zero (c : Nat) : rowR c [] = List.replicate c (-1) := by
 rw [List.eq_replicate_iff]
 refine ⟨rowR_len _ _, fun b hb => ?_⟩
 obtain ⟨u, _, rfl⟩ := List.mem_map.1 hb
 rfl
def negRow (c k : Nat) : List Int := List.replicate k (-1) ++ List.replicate (c - k) 0
theorem negRow_len {c k : Nat} (h : k ≤ c) : (negRow c k).length = c := by simp [negRow]; omega
theorem negRow_set {c k : Nat} (h : k < c) : (negRow c k).set k (-1) = negRow c (k + 1) := by
 have e : c - k = (c - (k + 1)) + 1 := by omega
 rw [negRow, e, List.replicate_succ, List.set_append, List.length_replicate, if_neg (by omega), Nat.sub_self, List.set_cons_zero, negRow, List.replicate_succ', List.append_assoc]
 rfl
theorem negRow_get {c k : Nat} (h : k < c) : ∃ x, (negRow c k)[k]? = some x := get_some (by rw [negRow_len (by omega)]; exact h)
theorem negRow_full (c : Nat) : negRow c c = rowR c [] := by rw [rowR_zero, negRow, Nat.sub_self]; simp
theorem negRow_zero (c : Nat) : (negRow c 0).map D.int = List.replicate c (D.int 0) := by simp [negRow]
set_option maxHeartbeats 8000000 in
theorem Ranks_spec (a : Lv) (hw : wide a) : CallsTo Try.prog 63 [lvD a] (.tup [intsD ((ranksF a.2.1).getD []), .bool (ranksF a.2.1).isSome]) := by
 obtain ⟨m, ls, ar, cs⟩ := a
 have hww : ∀ y, y ∈ ls → y.length * 8 ≤ 140737488351232 := hw
 refine callsTo_of Try.func63 rfl (by decide +kernel) (Nat.le_of_ble_eq_true rfl) ?_
 intro hat B X w0
 have h1 := at_len2 0 1 hat rfl rfl
 rw [List.length_map] at h1
 dsimp only at h1
 repeat' first | refine pw_step rfl ?_ | refine pw_ret ?_ | refine wR ?_ | (refine wpG_split rfl rfl (fun hc => ?_) (fun hc => ?_) <;> try simp only [hcL] at hc) | (refine pw_cond _ rfl rfl (fun hc => ?_) (fun hc => ?_) <;> (try simp only [hcL] at hc) <;> try omega) | simp (disch := omega) only [go_sem, simprocAttr] | apply And.intro | omega | decide +kernel
 refine pw_loopI (κ := Nat) (fun (i : Nat) => i ≤ ls.length ∧ i ≤ 257 ∧ tot (ls.take i) ≤ 512 + 17592186043904) (fun (i : Nat) => [(1, .ptr 1 0 0 0), (4, .int (tot (ls.take i))), (5, .int i)]) (fun (i : Nat) => [(1, .cells [.int m, .d (listsD ls), .d (arcsD ar), .d (listsD cs)])]) (fun (i : Nat) => ls.length - i) 0 ?_ ?_ ?_
 ·exact ⟨Nat.zero_le _, by omega, by simp [tot]⟩
 ·exact eL [] _ _ (by refine ⟨?_, ?_⟩ <;> (repeat' first | exact fmn | refine fmc ⟨(by first | rfl | (simp (disch := omega) only [go_sem, simprocAttr, inL, List.take_zero, tot]; first | done | omega | (congr 1; done))), ?_⟩); done)
 ·rintro i ⟨hi1, hi2, hi3⟩
  by_cases hgo : i < ls.length ∧ i < 257 ∧ tot (ls.take i) ≤ 512
  ·obtain ⟨g1, g2, g3⟩ := hgo
   obtain ⟨y, hy⟩ := get_some g1
   have hyw := hww y (List.mem_of_getElem? hy)
   have hts := tot_snoc hy
   repeat' first | refine pw_step rfl ?_ | refine pw_ret ?_ | refine wR ?_ | (refine wpG_split rfl rfl (fun hc => ?_) (fun hc => ?_) <;> try simp only [hcL] at hc) | (refine pw_cond _ rfl rfl (fun hc => ?_) (fun hc => ?_) <;> (try simp only [hcL] at hc) <;> try omega) | simp (disch := omega) only [go_sem, simprocAttr, hy] | apply And.intro | omega | decide +kernel
   refine ⟨i + 1, ?_, eL [] _ _ (by refine ⟨?_, ?_⟩ <;> (repeat' first | exact fmn | refine fmc ⟨(by first | rfl | (simp (disch := omega) only [go_sem, simprocAttr, inL, hts, Int.natCast_add]; first | done | omega | (congr 1; done))), ?_⟩); done), ?_⟩
   ·exact ⟨by omega, by omega, by omega⟩
   ·omega
  ·have hout : (256 < ls.length ∨ 512 < tot (ls.take i)) ∨ (i = ls.length ∧ ls.length ≤ 256 ∧ tot ls ≤ 512) := by
    by_cases c1 : i = ls.length
    ·rw [c1, List.take_length]; omega
    ·omega
   rcases hout with hno | ⟨rfl, g2, g3⟩
   ·have htl := tot_take_le ls i
    have hrf : ranksF ls = none := by rw [ranksF, if_pos (by omega)]
    rw [hrf]
    have hlt : i < ls.length ∨ i = ls.length := by omega
    rcases hlt with hlt | hlt
    all_goals
     by_cases h257 : i < 257
     all_goals
      repeat' first | refine pw_step rfl ?_ | refine pw_ret ?_ | refine wR ?_ | (refine wpG_split rfl rfl (fun hc => ?_) (fun hc => ?_) <;> try simp only [hcL] at hc) | (refine pw_cond _ rfl rfl (fun hc => ?_) (fun hc => ?_) <;> (try simp only [hcL] at hc) <;> try omega) | simp (disch := omega) only [go_sem, simprocAttr] | apply And.intro | omega | decide +kernel
      all_goals exact ⟨_, rfl, rfl, bool_some rfl, trivial⟩
   ·rw [List.take_length]
    have hrf : ranksF ls = if good (tot ls) ls then some (rowR (tot ls) ls) else none := by rw [ranksF, if_neg (by omega)]
    rw [hrf]
    generalize hc : tot ls = c at g3 ⊢
    repeat' first | refine pw_step rfl ?_ | refine pw_region (Nat.beq 43) hmix ?_ | (refine wpG_split rfl rfl (fun hc => ?_) (fun hc => ?_) <;> try simp only [hcL] at hc) | (refine pw_cond _ rfl rfl (fun hc => ?_) (fun hc => ?_) <;> (try simp only [hcL] at hc) <;> try omega) | simp (disch := omega) only [go_sem, simprocAttr] | apply And.intro | omega | decide +kernel
    refine pw_loopI (κ := Nat) (fun (v : Nat) => v ≤ c) (fun (v : Nat) => [(1, .ptr 1 0 0 0), (4, .int c), (6, .ref 43 1 0 c c), (7, .int v)]) (fun (v : Nat) => [(1, .cells [.int m, .d (listsD ls), .d (arcsD ar), .d (listsD cs)]), (43, .row 1 ((negRow c v).map D.int))]) (fun (v : Nat) => c - v) 0 ?_ ?_ ?_
    ·exact Nat.zero_le _
    ·exact eL [] _ _ (by refine ⟨?_, ?_⟩ <;> (repeat' first | exact fmn | refine fmc ⟨(by first | rfl | (simp (disch := omega) only [go_sem, simprocAttr, inL, negRow_zero]; first | done | omega | (congr 1; done))), ?_⟩); done)
    ·intro v hv
     have hnl := negRow_len hv
     rcases Nat.lt_or_ge v c with hlt | hge
     ·obtain ⟨x, hx⟩ := negRow_get hlt
      have hst := negRow_set hlt
      repeat' first | refine pw_step rfl ?_ | refine pw_ret ?_ | refine wR ?_ | (refine wpG_split rfl rfl (fun hc => ?_) (fun hc => ?_) <;> try simp only [hcL] at hc) | (refine pw_cond _ rfl rfl (fun hc => ?_) (fun hc => ?_) <;> (try simp only [hcL] at hc) <;> try omega) | simp (disch := omega) only [go_sem, simprocAttr, hx, hnl] | apply And.intro | omega | decide +kernel
      refine ⟨v + 1, ?_, eL [] _ _ (by refine ⟨?_, ?_⟩ <;> (repeat' first | exact fmn | refine fmc ⟨(by first | rfl | (simp (disch := omega) only [go_sem, simprocAttr, inL, hst.symm, List.map_set]; first | done | omega | (congr 1; done))), ?_⟩); done), ?_⟩
      ·omega
      ·omega
     ·have : v = c := by omega
      subst this
      try dsimp only
      rw [negRow_full]
      repeat' first | refine pw_step rfl ?_ | refine pw_ret ?_ | refine wR ?_ | (refine wpG_split rfl rfl (fun hc => ?_) (fun hc => ?_) <;> try simp only [hcL] at hc) | (refine pw_cond _ rfl rfl (fun hc => ?_) (fun hc => ?_) <;> (try simp only [hcL] at hc) <;> try omega) | simp (disch := omega) only [go_sem, simprocAttr] | apply And.intro | omega | decide +kernel
      refine pw_loopI (κ := Nat) (fun (i : Nat) => i ≤ ls.length ∧ good v (ls.take i) = true) (fun (i : Nat) => [(1, .ptr 1 0 0 0), (4, .int v), (6, .ref 43 1 0 v v), (8, .int i)]) (fun (i : Nat) => [(1, .cells [.int m, .d (listsD ls), .d (arcsD ar), .d (listsD cs)]), (43, .row 1 ((rowR v (ls.take i)).map D.int))]) (fun (i : Nat) => ls.length - i) 0 ?_ ?_ ?_
      ·exact ⟨Nat.zero_le _, by simp [good]⟩
      ·exact eL [] _ _ (by refine ⟨?_, ?_⟩ <;> (repeat' first | exact fmn | refine fmc ⟨(by first | rfl | (simp (disch := omega) only [go_sem, simprocAttr, inL, List.take_zero]; first | done | omega | (congr 1; done))), ?_⟩); done)
      ·rintro i ⟨hi, hgood⟩
       rcases Nat.lt_or_ge i ls.length with hlt | hge
       ·obtain ⟨y, hy⟩ := get_some hlt
        have hyw := hww y (List.mem_of_getElem? hy)
        repeat' first | refine pw_step rfl ?_ | refine pw_ret ?_ | refine wR ?_ | (refine wpG_split rfl rfl (fun hc => ?_) (fun hc => ?_) <;> try simp only [hcL] at hc) | (refine pw_cond _ rfl rfl (fun hc => ?_) (fun hc => ?_) <;> (try simp only [hcL] at hc) <;> try omega) | simp (disch := omega) only [go_sem, simprocAttr, hy] | apply And.intro | omega | decide +kernel
        refine pw_loopI (κ := Nat) (fun (k : Nat) => k ≤ y.length ∧ good v (pre ls i k) = true) (fun (k : Nat) => [(1, .ptr 1 0 0 0), (4, .int v), (6, .ref 43 1 0 v v), (8, .int i), (9, .int k)]) (fun (k : Nat) => [(1, .cells [.int m, .d (listsD ls), .d (arcsD ar), .d (listsD cs)]), (43, .row 1 ((rowR v (pre ls i k)).map D.int))]) (fun (k : Nat) => y.length - k) 0 ?_ ?_ ?_
        ·exact ⟨Nat.zero_le _, by rw [good_pre0]; exact hgood⟩
        ·exact eL [] _ _ (by refine ⟨?_, ?_⟩ <;> (repeat' first | exact fmn | refine fmc ⟨(by first | rfl | (simp (disch := omega) only [go_sem, simprocAttr, inL, rowR_pre0]; first | done | omega | (congr 1; done))), ?_⟩); done)
        ·rintro k ⟨hk, hgk⟩
         rcases Nat.lt_or_ge k y.length with hlk | hgk2
         ·obtain ⟨x, hx⟩ := get_some hlk
          have hrl := rowR_len v (pre ls i k)
          by_cases hin : 0 ≤ x ∧ x < v
          ·have hg := rowR_get (v := x.toNat) (c := v) (by omega) (pre ls i k)
           rw [show ((x.toNat : Nat) : Int) = x by omega] at hg
           by_cases hd : layI (pre ls i k) x < 0
           ·have hst := rowR_step (c := v) ls hy hx hin.1 hd
            repeat' first | refine pw_step rfl ?_ | refine pw_ret ?_ | refine wR ?_ | (refine wpG_split rfl rfl (fun hc => ?_) (fun hc => ?_) <;> try simp only [hcL] at hc) | (refine pw_cond _ rfl rfl (fun hc => ?_) (fun hc => ?_) <;> (try simp only [hcL] at hc) <;> try omega) | simp (disch := omega) only [go_sem, simprocAttr, hy, hx, hrl, hg] | apply And.intro | omega | decide +kernel
            refine ⟨k + 1, ?_, eL [] _ _ (by refine ⟨?_, ?_⟩ <;> (repeat' first | exact fmn | refine fmc ⟨(by first | rfl | (simp (disch := omega) only [go_sem, simprocAttr, inL, hst.symm, List.map_set]; first | done | omega | (congr 1; done))), ?_⟩); done), ?_⟩
            ·exact ⟨by omega, good_step hy hx hgk hin.1 hin.2 hd⟩
            ·omega
           ·have hbad := bad_step (c := v) hy hx (.inr (.inr (by omega)))
            rw [hbad]
            repeat' first | refine pw_step rfl ?_ | refine pw_ret ?_ | refine wR ?_ | (refine wpG_split rfl rfl (fun hc => ?_) (fun hc => ?_) <;> try simp only [hcL] at hc) | (refine pw_cond _ rfl rfl (fun hc => ?_) (fun hc => ?_) <;> (try simp only [hcL] at hc) <;> try omega) | simp (disch := omega) only [go_sem, simprocAttr, hy, hx, hrl, hg] | apply And.intro | omega | decide +kernel
            all_goals exact ⟨_, rfl, rfl, bool_some rfl, trivial⟩
          ·have hbad := bad_step (c := v) hy hx (by omega)
           rw [hbad]
           repeat' first | refine pw_step rfl ?_ | refine pw_ret ?_ | refine wR ?_ | (refine wpG_split rfl rfl (fun hc => ?_) (fun hc => ?_) <;> try simp only [hcL] at hc) | (refine pw_cond _ rfl rfl (fun hc => ?_) (fun hc => ?_) <;> (try simp only [hcL] at hc) <;> try omega) | simp (disch := omega) only [go_sem, simprocAttr, hy, hx, hrl] | apply And.intro | omega | decide +kernel
           all_goals exact ⟨_, rfl, rfl, bool_some rfl, trivial⟩
         ·have : k = y.length := by omega
          subst this
          have hpf := pre_full hy
          repeat' first | refine pw_step rfl ?_ | refine pw_ret ?_ | refine wR ?_ | (refine wpG_split rfl rfl (fun hc => ?_) (fun hc => ?_) <;> try simp only [hcL] at hc) | (refine pw_cond _ rfl rfl (fun hc => ?_) (fun hc => ?_) <;> (try simp only [hcL] at hc) <;> try omega) | simp (disch := omega) only [go_sem, simprocAttr, hy] | apply And.intro | omega | decide +kernel
          refine ⟨i + 1, ?_, eL [] _ _ (by refine ⟨?_, ?_⟩ <;> (repeat' first | exact fmn | refine fmc ⟨(by first | rfl | (simp (disch := omega) only [go_sem, simprocAttr, inL, hpf]; first | done | omega | (congr 1; done))), ?_⟩); done), ?_⟩
          ·exact ⟨by omega, by rw [← hpf]; exact hgk⟩
          ·omega
       ·have : i = ls.length := by omega
        subst this
        rw [List.take_length] at hgood
        try dsimp only
        rw [List.take_length, hgood]
        repeat' first | refine pw_step rfl ?_ | refine pw_ret ?_ | refine wR ?_ | (refine wpG_split rfl rfl (fun hc => ?_) (fun hc => ?_) <;> try simp only [hcL] at hc) | (refine pw_cond _ rfl rfl (fun hc => ?_) (fun hc => ?_) <;> (try simp only [hcL] at hc) <;> try omega) | simp (disch := omega) only [go_sem, simprocAttr] | apply And.intro | omega | decide +kernel
        exact ⟨_, rfl, ret_ref (o := 43) rfl rfl (by simp [rowR_len]) (List.take_of_length_le (by simp [rowR_len])), bool_some rfl, trivial⟩
end Go.Proofs.Ythbcmebhpabpnaa
