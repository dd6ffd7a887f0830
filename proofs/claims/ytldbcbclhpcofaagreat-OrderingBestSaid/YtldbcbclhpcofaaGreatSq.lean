/- All crossings after a layer is put in another order (no program in sight). -/
import Derived.Test.YtldbcbclhpcofaaGreatCd
import Derived.Test.YtldbcbclhpcofaaGreatF
import Derived.Test.YtldbcbclhpcofaaGreatPSBridge
import Derived.Test.YtldbcbclhpcofaaGreatPSFam
set_option linter.unusedSimpArgs false
set_option linter.unusedVariables false
namespace Go.Proofs.YtldbcbclhpcofaaGreat
open Go Go.PS Go.Proofs
open Go.Bd (sumC sumC_add sumC_zero Part full)

def putL (a : Lv) (i : Nat) (y : List Int) : Lv := (a.1, a.2.1.set i y, a.2.2.1, a.2.2.2)
theorem range_part (n : Nat) : Part n 0 (List.range n) := ⟨List.nodup_range, fun v hv => List.mem_range.1 hv, by simp⟩
theorem permL_range (y : List Int) : Zbk y (List.range y.length) = y := by
 refine List.ext_getElem? fun k => ?_
 rw [Zbk, List.getElem?_map]
 by_cases h : k < y.length
 ·rw [List.getElem?_range h, Option.map_some, List.getElem?_eq_getElem h]; rfl
 ·rw [List.getElem?_eq_none (by simpa using h), List.getElem?_eq_none (by omega)]; rfl
def bothC (a : Lv) (i : Nat) (u v : Nat) : Int := Zan (Zat a i ((i : Int) - 1)) u v + Zan (Zat a i ((i : Int) + 1)) u v
theorem sumZ_two {f g : Nat → Int} (i : Nat) (h : ∀ j, j ≠ i → j + 1 ≠ i → f j = g j) : ∀ n, sumZ f n = sumZ g n + (if i < n then f i - g i else 0) + (if 0 < i ∧ i ≤ n then f (i - 1) - g (i - 1) else 0)
 | 0 => by simp only [sumZ]; rw [if_neg (by omega), if_neg (by omega)]; rfl
 | n + 1 => by
  rw [sumZ, sumZ, sumZ_two i h n]
  by_cases c1 : n = i
  ·subst c1
   (repeat' split) <;> omega
  ·by_cases c2 : n + 1 = i
   ·subst c2
    simp only [Nat.add_sub_cancel]
    (repeat' split) <;> omega
   ·rw [h n c1 c2]
    (repeat' split) <;> omega
theorem between_out {a : Lv} {j : Nat} (h : ¬ j + 1 < a.2.1.length) : Zbj a j = 0 := by
 rw [Zbj, if_pos (by simp only [noPair, decide_eq_true_eq]; omega)]
theorem put_total {a : Lv} {i : Nat} {y : List Int} {o : List Nat} (hv : Zax a = true) (hv' : Zax (putL a i (Zbk y o)) = true) (hy : a.2.1[i]? = some y) (ho : Part y.length 0 o) :
  Zbf (putL a i (Zbk y o)) - Zbf a = sumC (bothC a i) o - sumC (bothC a i) (List.range y.length) := by
 have hil := (List.getElem?_eq_some_iff.1 hy).1
 have hlen : (putL a i (Zbk y o)).2.1.length = a.2.1.length := List.length_set
 have hget : ∀ j, j ≠ i → (putL a i (Zbk y o)).2.1[j]? = a.2.1[j]? := fun j hj => List.getElem?_set_ne (Ne.symm hj)
 have hget2 : (putL a i (Zbk y o)).2.1[i]? = some (Zbk y o) := List.getElem?_set_self hil
 have hrp := range_part y.length
 have hpr := permL_range y
 -- elsewhere nothing changes
 have he : ∀ j : Nat, j ≠ i → j + 1 ≠ i → Zbj (putL a i (Zbk y o)) j = Zbj a j := fun j h1 h2 => by
  by_cases c : j + 1 < a.2.1.length
  ·obtain ⟨p, q, hn⟩ := near_of hv c
   have hn' : Near (putL a i (Zbk y o)) j p q := ⟨hv', (hget j h1).trans hn.hy, (hget (j + 1) h2).trans hn.hz⟩
   rw [hn.between, hn'.between]; rfl
  ·rw [between_out c, between_out (by rw [hlen]; exact c)]
 have hup : Zbj (putL a i (Zbk y o)) i - Zbj a i = sumC (Zan (Zat a i ((i : Int) + 1))) o - sumC (Zan (Zat a i ((i : Int) + 1))) (List.range y.length) := by
  by_cases c : i + 1 < a.2.1.length
  ·obtain ⟨p, z, hn⟩ := near_of hv c
   obtain rfl : p = y := by have := hn.hy; rw [hy] at this; cases this; rfl
   have hn' : Near (putL a i (Zbk p o)) i (Zbk p o) z := ⟨hv', hget2, (hget (i + 1) (by omega)).trans hn.hz⟩
   have hn0 : Near a i (Zbk p (List.range p.length)) z := by rw [hpr]; exact hn
   rw [hn.perm_up hn' rfl ho, hn.perm_up hn0 rfl hrp]
  ·have hm : Zat a i ((i : Int) + 1) = [] := by
    rw [Zat, if_neg]
    intro hh
    simp only [matOk, Bool.and_eq_true, decide_eq_true_eq] at hh
    omega
   have hz : Zan (Zat a i ((i : Int) + 1)) = fun _ _ => 0 := by funext u v; rw [hm]; rfl
   rw [hz, sumC_zero, sumC_zero, between_out c, between_out (by rw [hlen]; exact c)]
 have hdn : (if 0 < i ∧ i ≤ a.2.1.length then Zbj (putL a i (Zbk y o)) ((i - 1 : Nat) : Int) - Zbj a ((i - 1 : Nat) : Int) else 0) =
   sumC (Zan (Zat a i ((i : Int) - 1))) o - sumC (Zan (Zat a i ((i : Int) - 1))) (List.range y.length) := by
  by_cases c : 0 < i
  ·obtain ⟨k, rfl⟩ : ∃ k, i = k + 1 := ⟨i - 1, by omega⟩
   rw [if_pos ⟨c, by omega⟩, Nat.add_sub_cancel, show ((k + 1 : Nat) : Int) - 1 = (k : Int) by omega, show ((k + 1 : Nat) : Int) = (k : Int) + 1 by omega]
   obtain ⟨x, p, hn⟩ := near_of hv (i := k) (by omega)
   obtain rfl : p = y := by have := hn.hz; rw [hy] at this; cases this; rfl
   have hn' : Near (putL a (k + 1) (Zbk p o)) k x (Zbk p o) := ⟨hv', (hget k (by omega)).trans hn.hy, hget2⟩
   have hn0 : Near a k x (Zbk p (List.range p.length)) := by rw [hpr]; exact hn
   rw [hn.perm_dn hn' rfl ho, hn.perm_dn hn0 rfl hrp]
  ·obtain rfl : i = 0 := by omega
   have hm : Zat a ((0 : Nat) : Int) (((0 : Nat) : Int) - 1) = [] := by
    rw [Zat, if_neg]
    intro hh
    simp only [matOk, Bool.and_eq_true, decide_eq_true_eq] at hh
    omega
   have hz : Zan (Zat a ((0 : Nat) : Int) (((0 : Nat) : Int) - 1)) = fun _ _ => 0 := by funext u v; rw [hm]; rfl
   rw [hz, sumC_zero, sumC_zero, if_neg (by omega)]; rfl
 have hb : bothC a i = fun u v => Zan (Zat a i ((i : Int) - 1)) u v + Zan (Zat a i ((i : Int) + 1)) u v := rfl
 rw [Zbf, Zbf, hlen, sumZ_two i he a.2.1.length, if_pos hil, hdn, hup, hb, sumC_add, sumC_add]
 omega
end Go.Proofs.YtldbcbclhpcofaaGreat
namespace Go.Proofs.YtldbcbclhpcofaaGreat
open Go Go.PS Go.Proofs
set_option maxRecDepth 100000
theorem cells_int {n : Nat} {cs : List D} (h : Zbz Tryz.prog (n + 1) 3 cs) : ∃ m : Int, cs = [.int m] := by
 have hu : Tryz.prog.underlying 3 = some (.int .i64) := by kernel_rfl
 simp only [Zbz, hu] at h
 obtain ⟨m, rfl, _⟩ := h
 exact ⟨m, rfl⟩
theorem cells_arc {n : Nat} {cs : List D} (h : Zbz Tryz.prog (n + 2) 44 cs) : ∃ p : Arc, cs = [.int p.1, .int p.2] := by
 have h := cells_struct (ts := [3, 3]) (by kernel_rfl) h
 obtain ⟨p, r, rfl, hp, q, r', rfl, hq, rfl⟩ := h
 obtain ⟨a, rfl⟩ := cells_int hp
 obtain ⟨b, rfl⟩ := cells_int hq
 exact ⟨(a, b), rfl⟩
theorem cells_arcs {n : Nat} {cs : List D} (h : Zbz Tryz.prog (n + 3) 23 cs) : ∃ l : List Arc, cs = [Zal l] := by
 obtain ⟨l, rfl, hl⟩ := cells_slice (e := 44) (by kernel_rfl) h
 obtain ⟨ys, rfl⟩ := map_of (f := arcD) (l := l) (fun d hd => by
  obtain ⟨es, rfl, _, he⟩ := hl d hd
  obtain ⟨p, rfl⟩ := cells_arc he
  rw [ty44]; exact ⟨p, rfl⟩)
 exact ⟨ys, rfl⟩
theorem cells_ints {n : Nat} {cs : List D} (h : Zbz Tryz.prog (n + 2) 37 cs) : ∃ l : List Int, cs = [Zak l] ∧ l.length * 8 ≤ 140737488351232 := by
 obtain ⟨l, rfl, hb, hl⟩ := cells_sliceS (e := 3) (by kernel_rfl) h
 obtain ⟨ys, rfl⟩ := map_of (f := D.int) (l := l) (fun d hd => by
  obtain ⟨es, rfl, _, he⟩ := hl d hd
  obtain ⟨p, rfl⟩ := cells_int he
  rw [ty3]; exact ⟨p, rfl⟩)
 refine ⟨ys, rfl, ?_⟩
 have hb3 : Tryz.prog.bytesOf 3 = 8 := by kernel_rfl
 rw [hb3, List.length_map] at hb
 exact hb
theorem map_of2 {α : Type} {f : α → D} {p : α → Prop} : ∀ {l : List D}, (∀ d ∈ l, ∃ a, d = f a ∧ p a) → ∃ ys : List α, l = ys.map f ∧ ∀ y ∈ ys, p y
 | [], _ => ⟨[], rfl, fun y hy => by cases hy⟩
 | d :: l, h => by
  obtain ⟨a, rfl, ha⟩ := h d (by simp)
  obtain ⟨ys, rfl, hy⟩ := map_of2 (l := l) (fun e he => h e (List.mem_cons_of_mem _ he))
  refine ⟨a :: ys, rfl, fun y hy2 => ?_⟩
  rcases List.mem_cons.1 hy2 with rfl | hy2
  ·exact ha
  ·exact hy y hy2
theorem cells_lists {n : Nat} {cs : List D} (h : Zbz Tryz.prog (n + 3) 22 cs) : ∃ l : List (List Int), cs = [Zaj l] ∧ ∀ y ∈ l, y.length * 8 ≤ 140737488351232 := by
 obtain ⟨l, rfl, hl⟩ := cells_slice (e := 37) (by kernel_rfl) h
 obtain ⟨ys, rfl, hy⟩ := map_of2 (f := Zak) (p := fun y => y.length * 8 ≤ 140737488351232) (l := l) (fun d hd => by
  obtain ⟨es, rfl, _, he⟩ := hl d hd
  obtain ⟨p, rfl, hp⟩ := cells_ints he
  rw [ty37]; exact ⟨p, rfl, hp⟩)
 exact ⟨ys, rfl, hy⟩
theorem arg_ints {x : D} (h : ArgOk Tryz.prog 37 x) : ∃ l : List Int, x = Zak l := by
 obtain ⟨cs, h, rfl⟩ := h
 obtain ⟨l, rfl, _⟩ := cells_ints h
 rw [ty37]; exact ⟨l, rfl⟩
theorem arg_lv {x : D} (h : ArgOk Tryz.prog 25 x) : ∃ a : {a : Lv // wide a}, x = lvD a.1 := by
 obtain ⟨cs, h, rfl⟩ := h
 have h := cells_struct (ts := [3, 22, 23, 22]) (by kernel_rfl) h
 obtain ⟨_, _, rfl, h1, _, _, rfl, h2, _, _, rfl, h3, _, _, rfl, h4, rfl⟩ := h
 obtain ⟨a, rfl⟩ := cells_int h1
 obtain ⟨b, rfl, hb⟩ := cells_lists h2
 obtain ⟨c, rfl⟩ := cells_arcs h3
 obtain ⟨d, rfl, _⟩ := cells_lists h4
 rw [ty25]
 exact ⟨⟨(a, b, c, d), hb⟩, rfl⟩
end Go.Proofs.YtldbcbclhpcofaaGreat
namespace Go.Proofs.YtldbcbclhpcofaaGreat
open Go Go.PS Go.Proofs
open Go.Bd (sm sumC Small)
set_option maxRecDepth 100000
attribute [local irreducible] Zaw wpG Zah Zai

abbrev natD (v : Nat) : D := .int (v : Int)
abbrev natsD (l : List Nat) : D := .sl (l.map natD)
theorem nats_ints (l : List Nat) : natsD l = Zak (l.map fun v : Nat => (v : Int)) := by rw [natsD, Zak, List.map_map]; rfl
theorem nat_cells (l : List Nat) : ∀ d, d ∈ l.map natD → d.cells.length = 1 := cells_map natD 1 (fun _ => rfl) l
theorem nat_one (v : Nat) : ∀ d, d ∈ [natD v] → d.cells.length = 1 := fun d hd => by rw [List.mem_singleton.1 hd]; rfl
theorem mem_nats {l : List Nat} {v : Nat} : (v : Int) ∈ l.map (fun v : Nat => (v : Int)) ↔ v ∈ l := by
 simp [List.mem_map, Int.ofNat_inj]
theorem placeF_mem (l : List Int) (v : Int) : decide (0 ≤ placeF l v) = decide (v ∈ l) := by
 rw [placeF_iff, Bool.eq_iff_iff, List.any_eq_true]
 simp
theorem containsI_spec (l : List Int) (v : Int) : Zah Tryz.prog 85 [Zak l, .int v] (.bool (decide (v ∈ l))) := by
 have h := index_spec l v
 rw [← placeF_mem]
 refine Zaf Tryz.func85 rfl (by decide +kernel) (Nat.le_of_ble_eq_true rfl) ?_
 intro hat B X w0
 repeat' first | refine Zad rfl ?_ | refine Zac ?_ | refine wR ?_ | (refine rc (h) rfl ?_ ?_; (· first | rfl | simp (disch := omega) only [go_sem, simprocAttr])) | (refine Zaa rfl rfl (fun hc => ?_) (fun hc => ?_) <;> try simp only [hcL] at hc) | (refine Zab _ rfl rfl (fun hc => ?_) (fun hc => ?_) <;> (try simp only [hcL] at hc) <;> try omega) | simp (disch := omega) only [go_sem, simprocAttr] | apply And.intro | omega | decide +kernel
 exact Zar rfl
theorem containsN_spec (l : List Nat) (v : Nat) : Zah Tryz.prog 85 [natsD l, .int v] (.bool (decide (v ∈ l))) := by
 have h := containsI_spec (l.map fun v : Nat => (v : Int)) v
 rw [← nats_ints, decide_eq_decide.2 mem_nats] at h
 exact h
def badC (x : Int) : Bool := decide (x < 0) || decide (1000000 < x)
def badRow (n : Nat) (p : List Int) : Bool := decide (p.length ≠ n) || p.any badC
def okM (m : List (List Int)) : Bool := decide (m.length ≤ 8) && !m.any (badRow m.length)
theorem ok_sq {m : List (List Int)} (h : okM m = true) : Sq m ∧ m.length ≤ 8 := by
 simp only [okM, Bool.and_eq_true, decide_eq_true_eq, Bool.not_eq_true', List.any_eq_false] at h
 obtain ⟨h1, h2⟩ := h
 have hr : ∀ p, p ∈ m → p.length = m.length ∧ ∀ x, x ∈ p → 0 ≤ x ∧ x ≤ 1000000 := fun p hp => by
  have := h2 p hp
  simp only [badRow, Bool.or_eq_true, decide_eq_true_eq, not_or, Bool.not_eq_true, List.any_eq_false] at this
  refine ⟨by omega, fun x hx => ?_⟩
  have := this.2 x hx
  simp only [badC, Bool.or_eq_true, Bool.or_eq_false_iff, decide_eq_true_eq, decide_eq_false_iff_not, not_or] at this
  omega
 exact ⟨⟨by omega, fun p hp => (hr p hp).1, fun p hp => (hr p hp).2⟩, h1⟩
theorem sq_ok {m : List (List Int)} (h : Sq m) (h8 : m.length ≤ 8) : okM m = true := by
 simp only [okM, Bool.and_eq_true, decide_eq_true_eq, Bool.not_eq_true', List.any_eq_false]
 refine ⟨h8, fun p hp => ?_⟩
 simp only [badRow, Bool.or_eq_true, decide_eq_true_eq, not_or, Bool.not_eq_true, List.any_eq_false]
 refine ⟨fun hne => hne (h.row p hp), fun x hx => ?_⟩
 have := h.val p hp x hx
 simp only [badC, Bool.or_eq_true, Bool.or_eq_false_iff, decide_eq_true_eq, decide_eq_false_iff_not, not_or]
 omega
theorem Sq.small {m : List (List Int)} (h : Sq m) : Small (Zan m) m.length := fun u v hu hv => by
 obtain ⟨p, _, _, _, g1, g2⟩ := h.get hu hv
 exact ⟨g1, g2⟩
theorem bad1_spec (x : Int) : Zah Tryz.prog 84 [.int x] (.bool (badC x)) := by
 refine Zaf Tryz.func84 rfl (by decide +kernel) (Nat.le_of_ble_eq_true rfl) ?_
 intro hat B X w0
 repeat' first | refine Zad rfl ?_ | refine Zac ?_ | refine wR ?_ | (refine Zaa rfl rfl (fun hc => ?_) (fun hc => ?_) <;> try simp only [hcL] at hc) | (refine Zab _ rfl rfl (fun hc => ?_) (fun hc => ?_) <;> (try simp only [hcL] at hc) <;> try omega) | simp (disch := omega) only [go_sem, simprocAttr] | apply And.intro | omega | decide +kernel
 all_goals
  refine Zar ?_
  simp only [badC, *, decide_true, decide_false, Bool.true_or, Bool.or_true, Bool.false_or, Bool.or_false]
set_option maxHeartbeats 1000000 in
theorem bValid_spec (m : List (List Int)) : Zah Tryz.prog 50 [Zaj m] (.bool (okM m)) := by
 refine Zaf Tryz.func50 rfl (by decide +kernel) (Nat.le_of_ble_eq_true rfl) ?_
 intro hat B X w0
 have hl := at_len 0 hat rfl
 rw [List.length_map] at hl
 by_cases c8 : 8 < m.length
 ·repeat' first | refine Zad rfl ?_ | refine Zac ?_ | refine wR ?_ | (refine Zaa rfl rfl (fun hc => ?_) (fun hc => ?_) <;> try simp only [hcL] at hc) | (refine Zab _ rfl rfl (fun hc => ?_) (fun hc => ?_) <;> (try simp only [hcL] at hc) <;> try omega) | simp (disch := omega) only [go_sem, simprocAttr] | apply And.intro | omega | decide +kernel
  refine Zar ?_
  rw [okM, decide_eq_false (by omega)]; rfl
 ·repeat' first | refine Zad rfl ?_ | refine Zac ?_ | refine wR ?_ | (refine Zaa rfl rfl (fun hc => ?_) (fun hc => ?_) <;> try simp only [hcL] at hc) | (refine Zab _ rfl rfl (fun hc => ?_) (fun hc => ?_) <;> (try simp only [hcL] at hc) <;> try omega) | simp (disch := omega) only [go_sem, simprocAttr] | apply And.intro | omega | decide +kernel
  refine Zao (κ := Nat) (fun (k : Nat) => k ≤ m.length ∧ ∀ (j : Nat) y, j < k → m[j]? = some y → badRow m.length y = false) (fun (k : Nat) => [(0, .d (Zaj m)), (8, .d (Zaj m)), (9, .int m.length), (10, .int k)]) (fun (k : Nat) => []) (fun (k : Nat) => m.length - k) 0 ?_ ?_ ?_
  ·exact ⟨Nat.zero_le _, fun j y hj => by omega⟩
  ·exact eL [] _ _ (by refine ⟨?_, ?_⟩ <;> (repeat' first | exact fmn | refine fmc ⟨(by first | rfl | (simp (disch := omega) only [go_sem, simprocAttr, inL]; first | done | omega | (congr 1; done))), ?_⟩); done)
  ·rintro k ⟨hk, hinv⟩
   rcases Nat.lt_or_ge k m.length with hlt | hge
   ·obtain ⟨p, hp⟩ := Zam hlt
    have hcf := containsF_spec p 84 badC bad1_spec
    by_cases c : p.length = m.length
    ·have cI : (p.length : Int) = m.length := by omega
     rcases hb : p.any badC with _ | _ <;> rw [hb] at hcf
     ·repeat' first | refine Zad rfl ?_ | refine Zac ?_ | refine wR ?_ | (refine rc (hcf) rfl ?_ ?_; (· first | rfl | simp (disch := omega) only [go_sem, simprocAttr, hp, cI])) | (refine Zaa rfl rfl (fun hc => ?_) (fun hc => ?_) <;> try simp only [hcL] at hc) | (refine Zab _ rfl rfl (fun hc => ?_) (fun hc => ?_) <;> (try simp only [hcL] at hc) <;> try omega) | simp (disch := omega) only [go_sem, simprocAttr, hp, cI] | apply And.intro | omega | decide +kernel
      refine ⟨k + 1, ?_, eL [] _ _ (by refine ⟨?_, ?_⟩ <;> (repeat' first | exact fmn | refine fmc ⟨(by first | rfl | (simp (disch := omega) only [go_sem, simprocAttr, inL]; first | done | omega | (congr 1; done))), ?_⟩); done), ?_⟩
      ·exact ⟨by omega, Zbq hinv hp (by rw [badRow, hb, decide_eq_false (by omega)]; rfl)⟩
      ·omega
     ·repeat' first | refine Zad rfl ?_ | refine Zac ?_ | refine wR ?_ | (refine rc (hcf) rfl ?_ ?_; (· first | rfl | simp (disch := omega) only [go_sem, simprocAttr, hp, cI])) | (refine Zaa rfl rfl (fun hc => ?_) (fun hc => ?_) <;> try simp only [hcL] at hc) | (refine Zab _ rfl rfl (fun hc => ?_) (fun hc => ?_) <;> (try simp only [hcL] at hc) <;> try omega) | simp (disch := omega) only [go_sem, simprocAttr, hp, cI] | apply And.intro | omega | decide +kernel
      refine Zar ?_
      rw [okM, any_at hp (by rw [badRow, hb, Bool.or_true])]; simp
    ·have cI : ¬ (p.length : Int) = m.length := by omega
     repeat' first | refine Zad rfl ?_ | refine Zac ?_ | refine wR ?_ | (refine rc (hcf) rfl ?_ ?_; (· first | rfl | simp (disch := omega) only [go_sem, simprocAttr, hp, cI])) | (refine Zaa rfl rfl (fun hc => ?_) (fun hc => ?_) <;> try simp only [hcL] at hc) | (refine Zab _ rfl rfl (fun hc => ?_) (fun hc => ?_) <;> (try simp only [hcL] at hc) <;> try omega) | simp (disch := omega) only [go_sem, simprocAttr, hp, cI] | apply And.intro | omega | decide +kernel
     refine Zar ?_
     rw [okM, any_at hp (by rw [badRow, decide_eq_true c, Bool.true_or])]; simp
   ·repeat' first | refine Zad rfl ?_ | refine Zac ?_ | refine wR ?_ | (refine Zaa rfl rfl (fun hc => ?_) (fun hc => ?_) <;> try simp only [hcL] at hc) | (refine Zab _ rfl rfl (fun hc => ?_) (fun hc => ?_) <;> (try simp only [hcL] at hc) <;> try omega) | simp (disch := omega) only [go_sem, simprocAttr] | apply And.intro | omega | decide +kernel
    refine Zar ?_
    rw [okM, any_no fun j y hj => hinv j y (by omega), decide_eq_true (by omega)]; rfl
end Go.Proofs.YtldbcbclhpcofaaGreat
namespace Go.Proofs.YtldbcbclhpcofaaGreat
open Go Go.PS Go.Proofs
open Go.Bd (sm sumC Small low Part bestF foldB better)
set_option maxRecDepth 100000
attribute [local irreducible] Zaw wpG Zah Zai

def lwF (m : List (List Int)) (k : Nat) : Int := sm (fun u => sm (fun v => min (Zan m u v) (Zan m v u)) u) k
theorem lw_low (m : List (List Int)) : low (Zan m) m.length [] = lwF m m.length := by
 rw [low, lwF]
 refine Go.Bd.sm_congr _ fun u _ => Go.Bd.sm_congr _ fun v _ => ?_
 rw [if_pos ⟨List.not_mem_nil, List.not_mem_nil⟩, Int.min_comm]
theorem iteI_min (a b : Int) : (if b < a then b else a) = min a b := by omega
theorem lw_in {m : List (List Int)} (hs : Sq m) (h8 : m.length ≤ 8) {u : Nat} (hu : u < m.length) (k : Nat) (hk : k ≤ u) : 0 ≤ sm (fun v => min (Zan m u v) (Zan m v u)) k ∧ sm (fun v => min (Zan m u v) (Zan m v u)) k ≤ 1000000 * k :=
 Go.Bd.sm_bounds k fun v hv => by
  have h1 := hs.small u v hu (by omega)
  have h2 := hs.small v u (by omega) hu
  omega
theorem lw_bounds {m : List (List Int)} (hs : Sq m) (h8 : m.length ≤ 8) (k : Nat) (hk : k ≤ m.length) : 0 ≤ lwF m k ∧ lwF m k ≤ 8000000 * k :=
 Go.Bd.sm_bounds k fun u hu => by
  have := lw_in hs h8 (u := u) (by omega) u (Nat.le_refl _)
  omega
set_option maxHeartbeats 1000000 in
theorem Lower_spec (m : List (List Int)) (h : okM m = true) : Zah Tryz.prog 52 [Zaj m] (.int (low (Zan m) m.length [])) := by
 have hv := bValid_spec m
 rw [h] at hv
 obtain ⟨hs, h8⟩ := ok_sq h
 rw [lw_low]
 refine Zaf Tryz.func52 rfl (by decide +kernel) (Nat.le_of_ble_eq_true rfl) ?_
 intro hat B X w0
 repeat' first | refine Zad rfl ?_ | refine Zac ?_ | refine wR ?_ | (refine rc (hv) rfl ?_ ?_; (· first | rfl | simp (disch := omega) only [go_sem, simprocAttr])) | (refine Zaa rfl rfl (fun hc => ?_) (fun hc => ?_) <;> try simp only [hcL] at hc) | (refine Zab _ rfl rfl (fun hc => ?_) (fun hc => ?_) <;> (try simp only [hcL] at hc) <;> try omega) | simp (disch := omega) only [go_sem, simprocAttr] | apply And.intro | omega | decide +kernel
 refine Zao (κ := Nat) (fun (u : Nat) => u ≤ m.length) (fun (u : Nat) => [(0, .d (Zaj m)), (3, .int (lwF m u)), (10, .int m.length), (11, .int u)]) (fun (u : Nat) => []) (fun (u : Nat) => m.length - u) 0 ?_ ?_ ?_
 ·exact Nat.zero_le _
 ·exact eL [] _ _ (by refine ⟨?_, ?_⟩ <;> (repeat' first | exact fmn | refine fmc ⟨(by first | rfl | (simp (disch := omega) only [go_sem, simprocAttr, inL, lwF, sm]; first | done | omega | (congr 1; done))), ?_⟩); done)
 ·intro u hu
  have hb := lw_bounds hs h8 u hu
  rcases Nat.lt_or_ge u m.length with hlt | hge
  ·have e1 : lwF m (u + 1) = lwF m u + sm (fun v => min (Zan m u v) (Zan m v u)) u := rfl
   repeat' first | refine Zad rfl ?_ | refine Zac ?_ | refine wR ?_ | (refine Zaa rfl rfl (fun hc => ?_) (fun hc => ?_) <;> try simp only [hcL] at hc) | (refine Zab _ rfl rfl (fun hc => ?_) (fun hc => ?_) <;> (try simp only [hcL] at hc) <;> try omega) | simp (disch := omega) only [go_sem, simprocAttr] | apply And.intro | omega | decide +kernel
   refine Zao (κ := Nat) (fun (v : Nat) => v ≤ u) (fun (v : Nat) => [(0, .d (Zaj m)), (3, .int (lwF m u + sm (fun v => min (Zan m u v) (Zan m v u)) v)), (4, .int u), (10, .int m.length), (11, .int u), (14, .int u), (15, .int v)]) (fun (v : Nat) => []) (fun (v : Nat) => u - v) 0 ?_ ?_ ?_
   ·exact Nat.zero_le _
   ·exact eL [] _ _ (by refine ⟨?_, ?_⟩ <;> (repeat' first | exact fmn | refine fmc ⟨(by first | rfl | (simp (disch := omega) only [go_sem, simprocAttr, inL, sm, Int.add_zero]; first | done | omega | (congr 1; done))), ?_⟩); done)
   ·intro v hv
    have hb2 := lw_in hs h8 hlt v hv
    rcases Nat.lt_or_ge v u with hlv | hgv
    ·obtain ⟨p, hp, hpl, hpv, h1, h2⟩ := hs.get hlt (show v < m.length by omega)
     obtain ⟨q, hq, hql, hqv, h3, h4⟩ := hs.get (show v < m.length by omega) hlt
     have e2 : sm (fun v => min (Zan m u v) (Zan m v u)) (v + 1) = sm (fun v => min (Zan m u v) (Zan m v u)) v + min (Zan m u v) (Zan m v u) := rfl
     repeat' first | refine Zad rfl ?_ | refine Zac ?_ | refine wR ?_ | (refine Zaa rfl rfl (fun hc => ?_) (fun hc => ?_) <;> try simp only [hcL] at hc) | (refine Zab _ rfl rfl (fun hc => ?_) (fun hc => ?_) <;> (try simp only [hcL] at hc) <;> try omega) | simp (disch := omega) only [go_sem, simprocAttr, hp, hq, hpv, hqv, iteI_min] | apply And.intro | omega | decide +kernel
     refine ⟨v + 1, ?_, eL [] _ _ (by refine ⟨?_, ?_⟩ <;> (repeat' first | exact fmn | refine fmc ⟨(by first | rfl | (simp (disch := omega) only [go_sem, simprocAttr, inL, e2, Int.add_assoc]; first | done | omega | (congr 1; done))), ?_⟩); done), ?_⟩
     ·omega
     ·omega
    ·have : v = u := by omega
     subst this
     repeat' first | refine Zad rfl ?_ | refine Zac ?_ | refine wR ?_ | (refine Zaa rfl rfl (fun hc => ?_) (fun hc => ?_) <;> try simp only [hcL] at hc) | (refine Zab _ rfl rfl (fun hc => ?_) (fun hc => ?_) <;> (try simp only [hcL] at hc) <;> try omega) | simp (disch := omega) only [go_sem, simprocAttr] | apply And.intro | omega | decide +kernel
     refine ⟨v + 1, ?_, eL [] _ _ (by refine ⟨?_, ?_⟩ <;> (repeat' first | exact fmn | refine fmc ⟨(by first | rfl | (simp (disch := omega) only [go_sem, simprocAttr, inL, e1]; first | done | omega | (congr 1; done))), ?_⟩); done), ?_⟩
     ·omega
     ·omega
  ·have : u = m.length := by omega
   subst this
   repeat' first | refine Zad rfl ?_ | refine Zac ?_ | refine wR ?_ | (refine Zaa rfl rfl (fun hc => ?_) (fun hc => ?_) <;> try simp only [hcL] at hc) | (refine Zab _ rfl rfl (fun hc => ?_) (fun hc => ?_) <;> (try simp only [hcL] at hc) <;> try omega) | simp (disch := omega) only [go_sem, simprocAttr] | apply And.intro | omega | decide +kernel
   exact Zaq rfl
end Go.Proofs.YtldbcbclhpcofaaGreat
namespace Go.Proofs.YtldbcbclhpcofaaGreat
open Go Go.PS Go.Proofs
open Go.Bd (sm sumC Small low Part bestF foldB better)
set_option maxRecDepth 100000
attribute [local irreducible] Zaw wpG Zah Zai

theorem part_nil (n : Nat) : Part n n [] := ⟨List.nodup_nil, fun v hv => absurd hv List.not_mem_nil, by simp⟩
def Zbl (m : List (List Int)) : List Nat × Int := (bestF (Zan m) m.length m.length []).getD ([], 0)
theorem bestAll_eq (m : List (List Int)) : bestF (Zan m) m.length m.length [] = some (Zbl m) := by
 obtain ⟨s, hs⟩ := Go.Bd.best_some (c := Zan m) m.length [] (part_nil _)
 rw [Zbl, hs]; rfl
end Go.Proofs.YtldbcbclhpcofaaGreat
namespace Go.Proofs.YtldbcbclhpcofaaGreat
open Go Go.PS Go.Proofs
open Go.Bd (sm sumC Small low Part bestF foldB better extF foldE more less shut)
set_option maxRecDepth 100000
attribute [local irreducible] Zaw wpG Zah Zai

theorem cloneN_spec (l : List Nat) (hn : l.length ≤ 1000000) : Zai Tryz.prog 62 [.ref 1000 1 0 l.length l.length] [(1000, .row 1 (l.map natD)), (2000, .dead)] (.ref 2000 1 0 l.length l.length) [(1000, .row 1 (l.map natD)), (2000, .row 1 (l.map natD))] := by
 rcases Decidable.em (l = []) with rfl | hl
 ·refine Zag Tryz.func62 rfl (by decide +kernel) (Nat.le_of_ble_eq_true rfl) rfl (Zaz rfl) rfl rfl rfl ?_
  intro B X w0
  refine pw_post ?_
  repeat' first | refine Zad rfl ?_ | refine Zac ?_ | refine wR ?_ | (refine Zaa rfl rfl (fun hc => ?_) (fun hc => ?_) <;> try simp only [hcL] at hc) | (refine Zab _ rfl rfl (fun hc => ?_) (fun hc => ?_) <;> (try simp only [hcL] at hc) <;> try omega) | simp (disch := omega) only [go_sem, simprocAttr] | apply And.intro | omega | decide +kernel
  refine pw_anyb 4 rfl ?_
  intro b
  cases b
  ·repeat' first | refine Zad rfl ?_ | refine Zac ?_ | refine Zcr (Nat.beq 5) hmix ?_ | (refine Zaa rfl rfl (fun hc => ?_) (fun hc => ?_) <;> try simp only [hcL] at hc) | (refine Zab _ rfl rfl (fun hc => ?_) (fun hc => ?_) <;> (try simp only [hcL] at hc) <;> try omega) | simp (disch := omega) only [go_sem, simprocAttr, Zba] | apply And.intro | omega | decide +kernel
   refine ⟨_, Zbg.1 (eL [(2000, 7)] [(2, .ref 2000 1 0 0 0)] [(1000, .row 1 []), (2000, .row 1 [])] (by refine ⟨?_, ?_⟩ <;> (repeat' first | exact fmn | refine fmc ⟨(by first | rfl | (simp (disch := omega) only [go_sem, simprocAttr, inL]; first | done | omega | (congr 1; done))), ?_⟩); done)), ?_⟩
   exact ⟨rfl, List.forall_mem_cons.2 ⟨rfl, List.forall_mem_cons.2 ⟨rfl, List.forall_mem_nil _⟩⟩⟩
  ·repeat' first | refine Zad rfl ?_ | refine Zac ?_ | refine wR ?_ | (refine Zaa rfl rfl (fun hc => ?_) (fun hc => ?_) <;> try simp only [hcL] at hc) | (refine Zab _ rfl rfl (fun hc => ?_) (fun hc => ?_) <;> (try simp only [hcL] at hc) <;> try omega) | simp (disch := omega) only [go_sem, simprocAttr] | apply And.intro | omega | decide +kernel
   refine ⟨_, Ent.trans (ent_nil 2 7 1 rfl rfl) (Zbg.1 (eL [(2000, 7)] [(2, .ref 2000 1 0 0 0)] [(1000, .row 1 []), (2000, .row 1 [])] (by constructor <;> (repeat' first | exact List.forall_mem_nil _ | refine List.forall_mem_cons.2 ⟨rfl, ?_⟩)))), ?_⟩
   exact ⟨rfl, List.forall_mem_cons.2 ⟨rfl, List.forall_mem_cons.2 ⟨rfl, List.forall_mem_nil _⟩⟩⟩
 ·have he : (l.map natD).isEmpty = false := by simpa using hl
  have hpos : 0 < l.length := List.length_pos_iff.2 hl
  have hne : l.length ≠ 0 := by omega
  refine Zag Tryz.func62 rfl (by decide +kernel) (Nat.le_of_ble_eq_true rfl) rfl (Zaz rfl) rfl rfl rfl ?_
  intro B X w0
  refine pw_post ?_
  repeat' first | refine Zad rfl ?_ | refine Zac ?_ | refine Zcr (Nat.beq 5) hmix ?_ | (refine Zaa rfl rfl (fun hc => ?_) (fun hc => ?_) <;> try simp only [hcL] at hc) | (refine Zab _ rfl rfl (fun hc => ?_) (fun hc => ?_) <;> (try simp only [hcL] at hc) <;> try omega) | simp (disch := omega) only [go_sem, simprocAttr, he, Zba, Zae, hne] | exact nat_cells l | apply And.intro | omega | decide +kernel
  refine ⟨_, Zbg.1 (eL [(2000, 7)] [(2, .ref 2000 1 0 l.length l.length)] [(1000, .row 1 (l.map natD)), (2000, .row 1 (l.map natD))] (by refine ⟨?_, ?_⟩ <;> (repeat' first | exact fmn | refine fmc ⟨(by first | rfl | (simp (disch := omega) only [go_sem, simprocAttr, inL]; first | done | omega | (congr 1; done))), ?_⟩); done)), ?_⟩
  exact ⟨rfl, List.forall_mem_cons.2 ⟨rfl, List.forall_mem_cons.2 ⟨rfl, List.forall_mem_nil _⟩⟩⟩
def bPV : Option (List Nat × Int) → PV
 | none => .nilS
 | some s => .d (natsD s.1)
def lI : Option (List Nat × Int) → Int
 | none => 0
 | some s => s.2
theorem ext_len (c : Nat → Nat → Int) (n : Nat) : ∀ (f : Nat) (l : List Nat), Part n f l → ∀ (st : Option (List Nat × Int)) (cost rest : Int), (∀ s, st = some s → s.1.length = n) → ∀ s, extF c n f l cost rest st = some s → s.1.length = n
 | 0, l, hp, st, cost, rest, h, s, hs => by
  rw [extF] at hs
  split at hs
  ·exact h s hs
  ·cases hs; have := hp.len; dsimp only; omega
 | f + 1, l, hp, st, cost, rest, h, s, hs => by
  rw [Go.Bd.ext_foldE] at hs
  split at hs
  ·exact h s hs
  ·have key : ∀ k, k ≤ n → ∀ s, foldE c n f l cost rest st k = some s → s.1.length = n := by
    intro k
    induction k with
    | zero => intro _ s hs; exact h s hs
    | succ k ih =>
     intro hk s hs
     by_cases hm : k ∈ l
     ·rw [Go.Bd.foldE_in c n hm] at hs; exact ih (by omega) s hs
     ·rw [Go.Bd.foldE_out c n hm] at hs
      exact ext_len c n f (l ++ [k]) (hp.snoc (by omega) hm) _ _ _ (ih (by omega)) s hs
   exact key n (Nat.le_refl _) s hs
theorem foldE_len {c : Nat → Nat → Int} {n f : Nat} {l : List Nat} (hp : Part n (f + 1) l) {st : Option (List Nat × Int)} {cost rest : Int} (h : ∀ s, st = some s → s.1.length = n) : ∀ k, k ≤ n → ∀ s, foldE c n f l cost rest st k = some s → s.1.length = n := by
 intro k
 induction k with
 | zero => intro _ s hs; exact h s hs
 | succ k ih =>
  intro hk s hs
  by_cases hm : k ∈ l
  ·rw [Go.Bd.foldE_in c n hm] at hs; exact ih (by omega) s hs
  ·rw [Go.Bd.foldE_out c n hm] at hs
   exact ext_len c n f (l ++ [k]) (hp.snoc (by omega) hm) _ _ _ (ih (by omega)) s hs
def ExtOk (m : List (List Int)) (f : Nat) (l : List Nat) (st : Option (List Nat × Int)) (cost rest : Int) : Prop :=
 Zai Tryz.prog 51 [.ptr 1000 0 0 0, .int cost, .int rest] [(1000, .cells [.d (Zaj m), .ref 1001 1 0 l.length l.length, bPV st, .int (lI st)]), (1001, .row 1 (l.map natD)), (2000, .dead)] (.tup [])
  [(1000, .cells [.d (Zaj m), .ref 2000 1 0 l.length l.length, bPV (extF (Zan m) m.length f l cost rest st), .int (lI (extF (Zan m) m.length f l cost rest st))]), (1001, .gone), (2000, .row 1 (l.map natD))]
structure ExtIn (m : List (List Int)) (l : List Nat) (st : Option (List Nat × Int)) (cost rest : Int) : Prop where
 len : ∀ s, st = some s → s.1.length = m.length
 pos : 0 < m.length ∨ st = none
 c0 : 0 ≤ cost
 c1 : cost ≤ 8000000 * l.length
 r0 : -8000000 * l.length ≤ rest
 r1 : rest ≤ 64000000
theorem ext_shut (m : List (List Int)) (f : Nat) (l : List Nat) (st : Option (List Nat × Int)) (cost rest : Int) (hi : ExtIn m l st cost rest) (hl : l.length ≤ 8) (hsh : shut st (cost + rest) = true) (he : extF (Zan m) m.length f l cost rest st = st) : ExtOk m f l st cost rest := by
 rw [ExtOk, he]
 rcases st with _ | ⟨b, k⟩
 ·cases hsh
 ·have hk : k ≤ cost + rest := by simpa [shut] using hsh
  have hbl := hi.len _ rfl
  have hpos : 0 < m.length := hi.pos.resolve_right (by simp)
  have hne : (b.map natD).isEmpty = false := by
   cases b with
   | nil => simp at hbl; omega
   | cons x b => rfl
  obtain ⟨_, _, c0, c1, r0, r1⟩ := hi
  simp only [bPV, lI]
  refine Zag Tryz.func51 rfl (by decide +kernel) (Nat.le_of_ble_eq_true rfl) rfl (Zaz rfl) rfl rfl rfl ?_
  intro B X w0
  refine pw_post ?_
  repeat' first | refine Zad rfl ?_ | refine Zac ?_ | refine wR ?_ | (refine Zaa rfl rfl (fun hc => ?_) (fun hc => ?_) <;> try simp only [hcL] at hc) | (refine Zab _ rfl rfl (fun hc => ?_) (fun hc => ?_) <;> (try simp only [hcL] at hc) <;> try omega) | simp (disch := omega) only [go_sem, simprocAttr, hne, hk] | apply And.intro | omega | decide +kernel
  refine ⟨_, ent_move 1001 2000 rfl (by decide) (by decide), ?_⟩
  exact ⟨⟨[], rfl, trivial⟩, List.forall_mem_cons.2 ⟨by simp [mvG, upd, obOf, Ob.ren, PV.ren], List.forall_mem_cons.2 ⟨rfl, List.forall_mem_cons.2 ⟨by simp [mvG, upd, obOf, Ob.ren, PV.ren], List.forall_mem_nil _⟩⟩⟩⟩
theorem ext_zero (m : List (List Int)) (hs : Sq m) (h8 : m.length ≤ 8) (l : List Nat) (hp : Part m.length 0 l) (st : Option (List Nat × Int)) (cost rest : Int) (hi : ExtIn m l st cost rest) (hsh : shut st (cost + rest) = false) : ExtOk m 0 l st cost rest := by
 have hll := hp.len
 have hlI : (l.length : Int) = m.length := by omega
 have he : extF (Zan m) m.length 0 l cost rest st = some (l, cost) := by rw [extF, if_neg (by rw [hsh]; decide)]
 rw [ExtOk, he]
 have hcl := cloneN_spec l (by omega)
 rcases st with _ | ⟨b, k⟩
 ·obtain ⟨_, _, c0, c1, r0, r1⟩ := hi
  simp only [bPV, lI]
  refine Zag Tryz.func51 rfl (by decide +kernel) (Nat.le_of_ble_eq_true rfl) rfl (Zaz rfl) rfl rfl rfl ?_
  intro B X w0
  refine pw_post ?_
  repeat' first | refine Zad rfl ?_ | refine Zac ?_ | refine wR ?_ | refine rcM [(1000, 1001), (2000, 905)] (hcl) rfl ?_ | (refine Zaa rfl rfl (fun hc => ?_) (fun hc => ?_) <;> try simp only [hcL] at hc) | (refine Zab _ rfl rfl (fun hc => ?_) (fun hc => ?_) <;> (try simp only [hcL] at hc) <;> try omega) | simp (disch := omega) only [go_sem, simprocAttr, hlI] | apply And.intro | omega | decide +kernel
  refine ⟨_, Ent.trans (Zbg.1 (eL [] [] [(1000, .cells [.d (Zaj m), .ref 1001 1 0 l.length l.length, .ref 905 1 0 l.length l.length, .int cost]), (1001, .row 1 (l.map natD)), (905, .row 1 (l.map natD))] (by constructor <;> (repeat' first | exact List.forall_mem_nil _ | refine List.forall_mem_cons.2 ⟨rfl, ?_⟩)))) (Ent.trans (Zck 905 1 (l.map natD) rfl (Zcl _ rfl) (by decide)) (ent_move 1001 2000 rfl (by decide) (by decide))), ?_⟩
  exact ⟨⟨[], rfl, trivial⟩, List.forall_mem_cons.2 ⟨by simp [mvG, upd, obOf, Ob.ren, PV.ren, frzObs_at, Ob.frz, PV.frzL, PV.frz, Zae, hlI], List.forall_mem_cons.2 ⟨rfl, List.forall_mem_cons.2 ⟨by simp [mvG, upd, obOf, Ob.ren, PV.ren, frzObs_at, Ob.frz], List.forall_mem_nil _⟩⟩⟩⟩
 ·have hk : ¬ k ≤ cost + rest := by simpa [shut] using hsh
  have hbl := hi.len _ rfl
  have hpos : 0 < m.length := hi.pos.resolve_right (by simp)
  have hne : (b.map natD).isEmpty = false := by
   cases b with
   | nil => simp at hbl; omega
   | cons x b => rfl
  obtain ⟨_, _, c0, c1, r0, r1⟩ := hi
  simp only [bPV, lI]
  refine Zag Tryz.func51 rfl (by decide +kernel) (Nat.le_of_ble_eq_true rfl) rfl (Zaz rfl) rfl rfl rfl ?_
  intro B X w0
  refine pw_post ?_
  repeat' first | refine Zad rfl ?_ | refine Zac ?_ | refine wR ?_ | refine rcM [(1000, 1001), (2000, 905)] (hcl) rfl ?_ | (refine Zaa rfl rfl (fun hc => ?_) (fun hc => ?_) <;> try simp only [hcL] at hc) | (refine Zab _ rfl rfl (fun hc => ?_) (fun hc => ?_) <;> (try simp only [hcL] at hc) <;> try omega) | simp (disch := omega) only [go_sem, simprocAttr, hne, hk, hlI] | apply And.intro | omega | decide +kernel
  refine ⟨_, Ent.trans (Zbg.1 (eL [] [] [(1000, .cells [.d (Zaj m), .ref 1001 1 0 l.length l.length, .ref 905 1 0 l.length l.length, .int cost]), (1001, .row 1 (l.map natD)), (905, .row 1 (l.map natD))] (by constructor <;> (repeat' first | exact List.forall_mem_nil _ | refine List.forall_mem_cons.2 ⟨rfl, ?_⟩)))) (Ent.trans (Zck 905 1 (l.map natD) rfl (Zcl _ rfl) (by decide)) (ent_move 1001 2000 rfl (by decide) (by decide))), ?_⟩
  exact ⟨⟨[], rfl, trivial⟩, List.forall_mem_cons.2 ⟨by simp [mvG, upd, obOf, Ob.ren, PV.ren, frzObs_at, Ob.frz, PV.frzL, PV.frz, Zae, hlI], List.forall_mem_cons.2 ⟨rfl, List.forall_mem_cons.2 ⟨by simp [mvG, upd, obOf, Ob.ren, PV.ren, frzObs_at, Ob.frz], List.forall_mem_nil _⟩⟩⟩⟩
end Go.Proofs.YtldbcbclhpcofaaGreat
namespace Go.Proofs.YtldbcbclhpcofaaGreat
open Go Go.PS Go.Proofs
open Go.Bd (sm sumC Small low Part bestF foldB better extF foldE more less shut)
set_option maxRecDepth 100000
attribute [local irreducible] Zaw wpG Zah Zai

def moreK (m : List (List Int)) (l : List Nat) (v k : Nat) : Int := sm (fun w => if w ≠ v ∧ w ∉ l then Zan m v w else 0) k
def lessK (m : List (List Int)) (l : List Nat) (v k : Nat) : Int := sm (fun w => if w ≠ v ∧ w ∉ l then min (Zan m v w) (Zan m w v) else 0) k
theorem pd_move {ids : List Nat} {S : St} {o o2 : Nat} (h1 : o ∈ ids) (h2 : o2 < 1000 ∨ 2000 ≤ o2) (h : Zbi ids S.objs) :
  Zbi ids (fun x => if x = o then .gone else if x = o2 then (S.objs o).ren (mvG o o2) else (S.objs x).ren (mvG o o2)) := fun i a b hi => by
 dsimp only
 rw [if_neg (fun e : i = o => hi (e ▸ h1)), if_neg (by omega), h i a b hi]; rfl
theorem moreK_in {m : List (List Int)} {l : List Nat} {v k : Nat} (h : ¬ (k ≠ v ∧ k ∉ l)) : moreK m l v (k + 1) = moreK m l v k := by rw [moreK, sm, if_neg h, Int.add_zero]; rfl
theorem moreK_out {m : List (List Int)} {l : List Nat} {v k : Nat} (h : k ≠ v ∧ k ∉ l) : moreK m l v (k + 1) = moreK m l v k + Zan m v k := by rw [moreK, sm, if_pos h]; rfl
theorem lessK_in {m : List (List Int)} {l : List Nat} {v k : Nat} (h : ¬ (k ≠ v ∧ k ∉ l)) : lessK m l v (k + 1) = lessK m l v k := by rw [lessK, sm, if_neg h, Int.add_zero]; rfl
theorem lessK_out {m : List (List Int)} {l : List Nat} {v k : Nat} (h : k ≠ v ∧ k ∉ l) : lessK m l v (k + 1) = lessK m l v k + min (Zan m v k) (Zan m k v) := by rw [lessK, sm, if_pos h]; rfl
set_option maxHeartbeats 16000000 in
theorem ext_main (m : List (List Int)) (hs : Sq m) (h8 : m.length ≤ 8) : ∀ (f : Nat) (l : List Nat), Part m.length f l → ∀ (st : Option (List Nat × Int)) (cost rest : Int), ExtIn m l st cost rest → ExtOk m f l st cost rest := by
 intro f
 induction f with
 | zero =>
  intro l hp st cost rest hi
  have hll := hp.len
  rcases hsh : shut st (cost + rest) with _ | _
  ·exact ext_zero m hs h8 l hp st cost rest hi hsh
  ·exact ext_shut m 0 l st cost rest hi (by omega) hsh (by rw [extF, if_pos hsh])
 | succ f IH =>
  intro l hp st cost rest hi
  have hll := hp.len
  rcases hsh : shut st (cost + rest) with _ | _
  ·rw [ExtOk, Go.Bd.ext_foldE, if_neg (by rw [hsh]; decide)]
   have hlen := foldE_len (cost := cost) (rest := rest) (c := Zan m) hp hi.len
   have hIH : ∀ v, v < m.length → v ∉ l → ExtOk m f (l ++ [v]) (foldE (Zan m) m.length f l cost rest st v) (cost + moreK m l v m.length) (rest - lessK m l v m.length) := fun v hv hm => by
    have b1 : 0 ≤ moreK m l v m.length ∧ moreK m l v m.length ≤ 1000000 * m.length := Go.Bd.more_bounds hs.small l hv m.length (Nat.le_refl _)
    have b2 : 0 ≤ lessK m l v m.length ∧ lessK m l v m.length ≤ 1000000 * m.length := Go.Bd.less_bounds hs.small l hv m.length (Nat.le_refl _)
    have b3 := hi.c0
    have b4 := hi.c1
    have b5 := hi.r0
    have b6 := hi.r1
    refine IH _ (hp.snoc hv hm) _ _ _ ⟨hlen v (by omega), .inl (by omega), by omega, ?_, ?_, by omega⟩
    ·rw [List.length_append, Int.natCast_add, Int.mul_add]
     simp only [List.length_cons, List.length_nil]
     omega
    ·rw [List.length_append, Int.natCast_add, Int.mul_add]
     simp only [List.length_cons, List.length_nil]
     omega
   obtain ⟨st0, hst0⟩ : ∃ st0, st = st0 := ⟨_, rfl⟩
   rw [hst0] at hlen hIH ⊢
   obtain ⟨hbl, hpos, c0, c1, r0, r1⟩ := hi
   obtain ⟨⟨be, ke⟩, hend⟩ : ∃ s, foldE (Zan m) m.length f l cost rest st0 m.length = some s := by
    obtain ⟨s, hx⟩ := Go.Bd.ext_some (c := Zan m) (f + 1) l hp cost rest st0
    rw [Go.Bd.ext_foldE, if_neg (by rw [← hst0, hsh]; decide)] at hx
    exact ⟨s, hx⟩
   rw [hend]
   all_goals
    rw [← hst0]
    rcases st with _ | ⟨b, k⟩
    all_goals simp only [bPV, lI]
    all_goals
     refine Zag Tryz.func51 rfl (by decide +kernel) (Nat.le_of_ble_eq_true rfl) rfl (Zaz rfl) rfl rfl rfl ?_
    all_goals intro B X w0
    all_goals refine pw_post ?_
    ·have hnl : ¬ (l.length : Int) = m.length := by omega
     repeat' first | refine Zad rfl ?_ | refine Zac ?_ | refine wR ?_ | (refine Zaa rfl rfl (fun hc => ?_) (fun hc => ?_) <;> try simp only [hcL] at hc) | (refine Zab _ rfl rfl (fun hc => ?_) (fun hc => ?_) <;> (try simp only [hcL] at hc) <;> try omega) | simp (disch := omega) only [go_sem, simprocAttr, hnl] | apply And.intro | omega | decide +kernel
     refine Zao (κ := Nat) (fun (v : Nat) => v ≤ m.length) (fun (v : Nat) => [(0, .ptr 1000 0 0 0), (1, .int cost), (2, .int rest), (51, .d (Zaj m)), (52, .int m.length), (53, .int v)]) (fun (v : Nat) => [(1000, .cells [.d (Zaj m), .ref 901 1 0 l.length l.length, bPV (foldE (Zan m) m.length f l cost rest st0 v), .int (lI (foldE (Zan m) m.length f l cost rest st0 v))]), (1001, .gone), (901, .row 1 (l.map natD))]) (fun (v : Nat) => m.length - v) 0 ?_ ?_ ?_
     ·exact Nat.zero_le _
     ·try dsimp only
      rw [Go.Bd.foldE_zero, ← hst0]
      exact Zbg.2 (Ent.trans (ent_move 1001 901 rfl (by decide) (by decide)) (Zbg.1 (eL [] _ _ (by refine ⟨?_, ?_⟩ <;> (repeat' first | exact List.forall_mem_nil _ | refine List.forall_mem_cons.2 ⟨(by first | rfl | (simp (disch := omega) only [go_sem, simprocAttr, inL, bPV, lI]; first | done | omega | (congr 1; done))), ?_⟩); done) (h7 := pd_move (by simp) (by decide) (by repeat' first | exact pd_dead | exact pd_of _ rfl | refine pd_upd rfl ?_)))))
     ·intro v hv
      have hlv := hlen v hv
      rcases Nat.lt_or_ge v m.length with hlt | hge
      ·have hin := containsN_spec l v
       by_cases hm : v ∈ l
       ·rw [decide_eq_true hm] at hin
        have e1 := Go.Bd.foldE_in (Zan m) m.length (f := f) (cost := cost) (rest := rest) (st := st0) hm
        rcases hst : foldE (Zan m) m.length f l cost rest st0 v with _ | ⟨b0, k0⟩ <;> rw [hst] at e1 <;> simp only [bPV, lI]
        all_goals
         repeat' first | refine Zad rfl ?_ | refine Zac ?_ | refine wR ?_ | (refine rc (hin) rfl ?_ ?_; (· first | rfl | simp (disch := omega) only [go_sem, simprocAttr, Zae])) | (refine Zaa rfl rfl (fun hc => ?_) (fun hc => ?_) <;> try simp only [hcL] at hc) | (refine Zab _ rfl rfl (fun hc => ?_) (fun hc => ?_) <;> (try simp only [hcL] at hc) <;> try omega) | simp (disch := omega) only [go_sem, simprocAttr, Zae] | apply And.intro | omega | decide +kernel
         refine ⟨v + 1, ?_, ?_, ?_⟩
         ·omega
         ·try dsimp only
          rw [e1]
          exact eL [] _ _ (by refine ⟨?_, ?_⟩ <;> (repeat' first | exact fmn | refine fmc ⟨(by first | rfl | (simp (disch := omega) only [go_sem, simprocAttr, inL, bPV, lI]; first | done | omega | (congr 1; done))), ?_⟩); done)
         ·omega
       ·rw [decide_eq_false hm] at hin
        have e1 := Go.Bd.foldE_out (Zan m) m.length (f := f) (cost := cost) (rest := rest) (st := st0) hm
        have ih := hIH v hlt hm
        have en : (((l.length + 1 : Nat) : Int) - 1).toNat = l.length := by omega
        have hT : (l.map natD ++ [natD v]).take l.length = l.map natD := List.take_left' (List.length_map ..)
        rcases hst : foldE (Zan m) m.length f l cost rest st0 v with _ | ⟨b0, k0⟩
        all_goals
         rw [hst] at e1 ih
         have e3 : foldE (Zan m) m.length f l cost rest st0 (v + 1) = extF (Zan m) m.length f (l ++ [v]) (cost + moreK m l v m.length) (rest - lessK m l v m.length) _ := e1
         rw [ExtOk, ← e3] at ih
         obtain ⟨⟨b2, k2⟩, hst2⟩ : ∃ s, foldE (Zan m) m.length f l cost rest st0 (v + 1) = some s := by
          rw [e3]; exact Go.Bd.ext_some f (l ++ [v]) (hp.snoc hlt hm) _ _ _
         rw [hst2] at ih e3
         simp only [bPV, lI, List.length_append, List.length_cons, List.length_nil, List.map_append, List.map_cons, List.map_nil, Nat.zero_add] at ih ⊢
        ·repeat' first | refine Zad rfl ?_ | refine Zac ?_ | refine wR ?_ | (refine rc (hin) rfl ?_ ?_; (· first | rfl | simp (disch := omega) only [go_sem, simprocAttr, Zae])) | (refine Zaa rfl rfl (fun hc => ?_) (fun hc => ?_) <;> try simp only [hcL] at hc) | (refine Zab _ rfl rfl (fun hc => ?_) (fun hc => ?_) <;> (try simp only [hcL] at hc) <;> try omega) | simp (disch := omega) only [go_sem, simprocAttr, Zae] | apply And.intro | omega | decide +kernel
         refine Zao (κ := Nat) (fun (w : Nat) => w ≤ m.length) (fun (w : Nat) => [(0, .ptr 1000 0 0 0), (1, .int cost), (2, .int rest), (6, .int v), (7, .int (moreK m l v w)), (8, .int (lessK m l v w)), (51, .d (Zaj m)), (52, .int m.length), (53, .int v), (65, .d (Zaj m)), (66, .int m.length), (67, .int w)]) (fun (w : Nat) => [(1000, .cells [.d (Zaj m), .ref 901 1 0 l.length l.length, .nilS, .int 0]), (1001, .gone), (901, .row 1 (l.map natD))]) (fun (w : Nat) => m.length - w) 0 ?_ ?_ ?_
         ·exact Nat.zero_le _
         ·exact eL [] _ _ (by refine ⟨?_, ?_⟩ <;> (repeat' first | exact fmn | refine fmc ⟨(by first | rfl | (simp (disch := omega) only [go_sem, simprocAttr, inL, moreK, lessK, sm]; first | done | omega | (congr 1; done))), ?_⟩); done)
         ·intro w hw
          have b1 : 0 ≤ moreK m l v w ∧ moreK m l v w ≤ 1000000 * w := Go.Bd.more_bounds hs.small l hlt w hw
          have b2 : 0 ≤ lessK m l v w ∧ lessK m l v w ≤ 1000000 * w := Go.Bd.less_bounds hs.small l hlt w hw
          rcases Nat.lt_or_ge w m.length with hlw | hgw
          ·obtain ⟨p, hp1, hp2, hp3, hp4, hp5⟩ := hs.get hlt hlw
           obtain ⟨q, hq1, hq2, hq3, hq4, hq5⟩ := hs.get hlw hlt
           have hcw := containsN_spec l w
           by_cases d1 : w = v
           ·have e1 := moreK_in (m := m) (l := l) (v := v) (k := w) (fun h => h.1 d1)
            have e2 := lessK_in (m := m) (l := l) (v := v) (k := w) (fun h => h.1 d1)
            have d1I : (w : Int) = v := by omega
            repeat' first | refine Zad rfl ?_ | refine Zac ?_ | refine wR ?_ | (refine Zaa rfl rfl (fun hc => ?_) (fun hc => ?_) <;> try simp only [hcL] at hc) | (refine Zab _ rfl rfl (fun hc => ?_) (fun hc => ?_) <;> (try simp only [hcL] at hc) <;> try omega) | simp (disch := omega) only [go_sem, simprocAttr, d1I] | apply And.intro | omega | decide +kernel
            refine ⟨w + 1, ?_, eL [] _ _ (by refine ⟨?_, ?_⟩ <;> (repeat' first | exact fmn | refine fmc ⟨(by first | rfl | (simp (disch := omega) only [go_sem, simprocAttr, inL, e1, e2]; first | done | omega | (congr 1; done))), ?_⟩); done), ?_⟩
            ·omega
            ·omega
           ·have d1I : ¬ (w : Int) = v := by omega
            by_cases d2 : w ∈ l
            ·have e1 := moreK_in (m := m) (l := l) (v := v) (k := w) (fun h => h.2 d2)
             have e2 := lessK_in (m := m) (l := l) (v := v) (k := w) (fun h => h.2 d2)
             rw [decide_eq_true d2] at hcw
             repeat' first | refine Zad rfl ?_ | refine Zac ?_ | refine wR ?_ | (refine rc (hcw) rfl ?_ ?_; (· first | rfl | simp (disch := omega) only [go_sem, simprocAttr, d1I, Zae])) | (refine Zaa rfl rfl (fun hc => ?_) (fun hc => ?_) <;> try simp only [hcL] at hc) | (refine Zab _ rfl rfl (fun hc => ?_) (fun hc => ?_) <;> (try simp only [hcL] at hc) <;> try omega) | simp (disch := omega) only [go_sem, simprocAttr, d1I, Zae] | apply And.intro | omega | decide +kernel
             refine ⟨w + 1, ?_, eL [] _ _ (by refine ⟨?_, ?_⟩ <;> (repeat' first | exact fmn | refine fmc ⟨(by first | rfl | (simp (disch := omega) only [go_sem, simprocAttr, inL, e1, e2]; first | done | omega | (congr 1; done))), ?_⟩); done), ?_⟩
             ·omega
             ·omega
            ·have e1 := moreK_out (m := m) (l := l) (v := v) (k := w) ⟨d1, d2⟩
             have e2 := lessK_out (m := m) (l := l) (v := v) (k := w) ⟨d1, d2⟩
             rw [decide_eq_false d2] at hcw
             repeat' first | refine Zad rfl ?_ | refine Zac ?_ | refine wR ?_ | (refine rc (hcw) rfl ?_ ?_; (· first | rfl | simp (disch := omega) only [go_sem, simprocAttr, d1I, Zae, hp1, hp3, hq1, hq3, iteI_min])) | (refine Zaa rfl rfl (fun hc => ?_) (fun hc => ?_) <;> try simp only [hcL] at hc) | (refine Zab _ rfl rfl (fun hc => ?_) (fun hc => ?_) <;> (try simp only [hcL] at hc) <;> try omega) | simp (disch := omega) only [go_sem, simprocAttr, d1I, Zae, hp1, hp3, hq1, hq3, iteI_min] | apply And.intro | omega | decide +kernel
             refine ⟨w + 1, ?_, eL [] _ _ (by refine ⟨?_, ?_⟩ <;> (repeat' first | exact fmn | refine fmc ⟨(by first | rfl | (simp (disch := omega) only [go_sem, simprocAttr, inL, e1, e2]; first | done | omega | (congr 1; done))), ?_⟩); done), ?_⟩
             ·omega
             ·omega
          ·have : w = m.length := by omega
           subst this
           repeat' first | refine Zad rfl ?_ | refine Zac ?_ | refine wR ?_ | refine rcM [(1001, 125), (2000, 904)] (ih) rfl ?_ | (refine Zaa rfl rfl (fun hc => ?_) (fun hc => ?_) <;> try simp only [hcL] at hc) | (refine Zab _ rfl rfl (fun hc => ?_) (fun hc => ?_) <;> (try simp only [hcL] at hc) <;> try omega) | simp (disch := omega) only [go_sem, simprocAttr, Zba, Zae, en, Nat.sub_zero] | exact nat_one v | apply And.intro | omega | decide +kernel
           refine ⟨v + 1, ?_, ?_, ?_⟩
           ·omega
           ·try dsimp only
            rw [hst2]
            exact Zbg.2 (Ent.trans (ent_trunc 904 1 _ l.length rfl) (Ent.trans (ent_cap 1000 1 904 1 0 l.length (l.length + 1) l.length rfl rfl (by omega)) (Zbg.1 (eL [(901, 904)] _ _ (by refine ⟨?_, ?_⟩ <;> (repeat' first | exact List.forall_mem_nil _ | refine List.forall_mem_cons.2 ⟨(by first | rfl | (simp (disch := omega) only [go_sem, simprocAttr, inL, hT, bPV, lI, List.set_cons_succ, List.set_cons_zero]; first | done | omega | (congr 1; done))), ?_⟩); done)))))
           ·omega
        ·repeat' first | refine Zad rfl ?_ | refine Zac ?_ | refine wR ?_ | (refine rc (hin) rfl ?_ ?_; (· first | rfl | simp (disch := omega) only [go_sem, simprocAttr, Zae])) | (refine Zaa rfl rfl (fun hc => ?_) (fun hc => ?_) <;> try simp only [hcL] at hc) | (refine Zab _ rfl rfl (fun hc => ?_) (fun hc => ?_) <;> (try simp only [hcL] at hc) <;> try omega) | simp (disch := omega) only [go_sem, simprocAttr, Zae] | apply And.intro | omega | decide +kernel
         refine Zao (κ := Nat) (fun (w : Nat) => w ≤ m.length) (fun (w : Nat) => [(0, .ptr 1000 0 0 0), (1, .int cost), (2, .int rest), (6, .int v), (7, .int (moreK m l v w)), (8, .int (lessK m l v w)), (51, .d (Zaj m)), (52, .int m.length), (53, .int v), (65, .d (Zaj m)), (66, .int m.length), (67, .int w)]) (fun (w : Nat) => [(1000, .cells [.d (Zaj m), .ref 901 1 0 l.length l.length, .d (natsD b0), .int k0]), (1001, .gone), (901, .row 1 (l.map natD))]) (fun (w : Nat) => m.length - w) 0 ?_ ?_ ?_
         ·exact Nat.zero_le _
         ·exact eL [] _ _ (by refine ⟨?_, ?_⟩ <;> (repeat' first | exact fmn | refine fmc ⟨(by first | rfl | (simp (disch := omega) only [go_sem, simprocAttr, inL, moreK, lessK, sm]; first | done | omega | (congr 1; done))), ?_⟩); done)
         ·intro w hw
          have b1 : 0 ≤ moreK m l v w ∧ moreK m l v w ≤ 1000000 * w := Go.Bd.more_bounds hs.small l hlt w hw
          have b2 : 0 ≤ lessK m l v w ∧ lessK m l v w ≤ 1000000 * w := Go.Bd.less_bounds hs.small l hlt w hw
          rcases Nat.lt_or_ge w m.length with hlw | hgw
          ·obtain ⟨p, hp1, hp2, hp3, hp4, hp5⟩ := hs.get hlt hlw
           obtain ⟨q, hq1, hq2, hq3, hq4, hq5⟩ := hs.get hlw hlt
           have hcw := containsN_spec l w
           by_cases d1 : w = v
           ·have e1 := moreK_in (m := m) (l := l) (v := v) (k := w) (fun h => h.1 d1)
            have e2 := lessK_in (m := m) (l := l) (v := v) (k := w) (fun h => h.1 d1)
            have d1I : (w : Int) = v := by omega
            repeat' first | refine Zad rfl ?_ | refine Zac ?_ | refine wR ?_ | (refine Zaa rfl rfl (fun hc => ?_) (fun hc => ?_) <;> try simp only [hcL] at hc) | (refine Zab _ rfl rfl (fun hc => ?_) (fun hc => ?_) <;> (try simp only [hcL] at hc) <;> try omega) | simp (disch := omega) only [go_sem, simprocAttr, d1I] | apply And.intro | omega | decide +kernel
            refine ⟨w + 1, ?_, eL [] _ _ (by refine ⟨?_, ?_⟩ <;> (repeat' first | exact fmn | refine fmc ⟨(by first | rfl | (simp (disch := omega) only [go_sem, simprocAttr, inL, e1, e2]; first | done | omega | (congr 1; done))), ?_⟩); done), ?_⟩
            ·omega
            ·omega
           ·have d1I : ¬ (w : Int) = v := by omega
            by_cases d2 : w ∈ l
            ·have e1 := moreK_in (m := m) (l := l) (v := v) (k := w) (fun h => h.2 d2)
             have e2 := lessK_in (m := m) (l := l) (v := v) (k := w) (fun h => h.2 d2)
             rw [decide_eq_true d2] at hcw
             repeat' first | refine Zad rfl ?_ | refine Zac ?_ | refine wR ?_ | (refine rc (hcw) rfl ?_ ?_; (· first | rfl | simp (disch := omega) only [go_sem, simprocAttr, d1I, Zae])) | (refine Zaa rfl rfl (fun hc => ?_) (fun hc => ?_) <;> try simp only [hcL] at hc) | (refine Zab _ rfl rfl (fun hc => ?_) (fun hc => ?_) <;> (try simp only [hcL] at hc) <;> try omega) | simp (disch := omega) only [go_sem, simprocAttr, d1I, Zae] | apply And.intro | omega | decide +kernel
             refine ⟨w + 1, ?_, eL [] _ _ (by refine ⟨?_, ?_⟩ <;> (repeat' first | exact fmn | refine fmc ⟨(by first | rfl | (simp (disch := omega) only [go_sem, simprocAttr, inL, e1, e2]; first | done | omega | (congr 1; done))), ?_⟩); done), ?_⟩
             ·omega
             ·omega
            ·have e1 := moreK_out (m := m) (l := l) (v := v) (k := w) ⟨d1, d2⟩
             have e2 := lessK_out (m := m) (l := l) (v := v) (k := w) ⟨d1, d2⟩
             rw [decide_eq_false d2] at hcw
             repeat' first | refine Zad rfl ?_ | refine Zac ?_ | refine wR ?_ | (refine rc (hcw) rfl ?_ ?_; (· first | rfl | simp (disch := omega) only [go_sem, simprocAttr, d1I, Zae, hp1, hp3, hq1, hq3, iteI_min])) | (refine Zaa rfl rfl (fun hc => ?_) (fun hc => ?_) <;> try simp only [hcL] at hc) | (refine Zab _ rfl rfl (fun hc => ?_) (fun hc => ?_) <;> (try simp only [hcL] at hc) <;> try omega) | simp (disch := omega) only [go_sem, simprocAttr, d1I, Zae, hp1, hp3, hq1, hq3, iteI_min] | apply And.intro | omega | decide +kernel
             refine ⟨w + 1, ?_, eL [] _ _ (by refine ⟨?_, ?_⟩ <;> (repeat' first | exact fmn | refine fmc ⟨(by first | rfl | (simp (disch := omega) only [go_sem, simprocAttr, inL, e1, e2]; first | done | omega | (congr 1; done))), ?_⟩); done), ?_⟩
             ·omega
             ·omega
          ·have : w = m.length := by omega
           subst this
           repeat' first | refine Zad rfl ?_ | refine Zac ?_ | refine wR ?_ | refine rcM [(1001, 125), (2000, 904)] (ih) rfl ?_ | (refine Zaa rfl rfl (fun hc => ?_) (fun hc => ?_) <;> try simp only [hcL] at hc) | (refine Zab _ rfl rfl (fun hc => ?_) (fun hc => ?_) <;> (try simp only [hcL] at hc) <;> try omega) | simp (disch := omega) only [go_sem, simprocAttr, Zba, Zae, en, Nat.sub_zero] | exact nat_one v | apply And.intro | omega | decide +kernel
           refine ⟨v + 1, ?_, ?_, ?_⟩
           ·omega
           ·try dsimp only
            rw [hst2]
            exact Zbg.2 (Ent.trans (ent_trunc 904 1 _ l.length rfl) (Ent.trans (ent_cap 1000 1 904 1 0 l.length (l.length + 1) l.length rfl rfl (by omega)) (Zbg.1 (eL [(901, 904)] _ _ (by refine ⟨?_, ?_⟩ <;> (repeat' first | exact List.forall_mem_nil _ | refine List.forall_mem_cons.2 ⟨(by first | rfl | (simp (disch := omega) only [go_sem, simprocAttr, inL, hT, bPV, lI, List.set_cons_succ, List.set_cons_zero]; first | done | omega | (congr 1; done))), ?_⟩); done)))))
           ·omega
      ·have : v = m.length := by omega
       subst this
       rw [hend]
       simp only [bPV, lI]
       repeat' first | refine Zad rfl ?_ | refine Zac ?_ | refine wR ?_ | (refine Zaa rfl rfl (fun hc => ?_) (fun hc => ?_) <;> try simp only [hcL] at hc) | (refine Zab _ rfl rfl (fun hc => ?_) (fun hc => ?_) <;> (try simp only [hcL] at hc) <;> try omega) | simp (disch := omega) only [go_sem, simprocAttr] | apply And.intro | omega | decide +kernel
       refine ⟨_, Zbg.1 (eL [(2000, 901)] [] [(1000, .cells [.d (Zaj m), .ref 2000 1 0 l.length l.length, .d (natsD be), .int ke]), (1001, .gone), (2000, .row 1 (l.map natD))] (by constructor <;> (repeat' first | exact List.forall_mem_nil _ | refine List.forall_mem_cons.2 ⟨rfl, ?_⟩); done)), ?_⟩
       exact ⟨⟨[], rfl, trivial⟩, List.forall_mem_cons.2 ⟨rfl, List.forall_mem_cons.2 ⟨rfl, List.forall_mem_cons.2 ⟨rfl, List.forall_mem_nil _⟩⟩⟩⟩
    ·have hk : ¬ k ≤ cost + rest := by simpa [shut] using hsh
     have hbl' := hbl _ rfl
     have hnl : ¬ (l.length : Int) = m.length := by omega
     have hne : (b.map natD).isEmpty = false := by
      cases b with
      | nil => simp at hbl'; omega
      | cons x b => rfl
     repeat' first | refine Zad rfl ?_ | refine Zac ?_ | refine wR ?_ | (refine Zaa rfl rfl (fun hc => ?_) (fun hc => ?_) <;> try simp only [hcL] at hc) | (refine Zab _ rfl rfl (fun hc => ?_) (fun hc => ?_) <;> (try simp only [hcL] at hc) <;> try omega) | simp (disch := omega) only [go_sem, simprocAttr, hne, hk, hnl] | apply And.intro | omega | decide +kernel
     refine Zao (κ := Nat) (fun (v : Nat) => v ≤ m.length) (fun (v : Nat) => [(0, .ptr 1000 0 0 0), (1, .int cost), (2, .int rest), (51, .d (Zaj m)), (52, .int m.length), (53, .int v)]) (fun (v : Nat) => [(1000, .cells [.d (Zaj m), .ref 901 1 0 l.length l.length, bPV (foldE (Zan m) m.length f l cost rest st0 v), .int (lI (foldE (Zan m) m.length f l cost rest st0 v))]), (1001, .gone), (901, .row 1 (l.map natD))]) (fun (v : Nat) => m.length - v) 0 ?_ ?_ ?_
     ·exact Nat.zero_le _
     ·try dsimp only
      rw [Go.Bd.foldE_zero, ← hst0]
      exact Zbg.2 (Ent.trans (ent_move 1001 901 rfl (by decide) (by decide)) (Zbg.1 (eL [] _ _ (by refine ⟨?_, ?_⟩ <;> (repeat' first | exact List.forall_mem_nil _ | refine List.forall_mem_cons.2 ⟨(by first | rfl | (simp (disch := omega) only [go_sem, simprocAttr, inL, bPV, lI]; first | done | omega | (congr 1; done))), ?_⟩); done) (h7 := pd_move (by simp) (by decide) (by repeat' first | exact pd_dead | exact pd_of _ rfl | refine pd_upd rfl ?_)))))
     ·intro v hv
      have hlv := hlen v hv
      rcases Nat.lt_or_ge v m.length with hlt | hge
      ·have hin := containsN_spec l v
       by_cases hm : v ∈ l
       ·rw [decide_eq_true hm] at hin
        have e1 := Go.Bd.foldE_in (Zan m) m.length (f := f) (cost := cost) (rest := rest) (st := st0) hm
        rcases hst : foldE (Zan m) m.length f l cost rest st0 v with _ | ⟨b0, k0⟩ <;> rw [hst] at e1 <;> simp only [bPV, lI]
        all_goals
         repeat' first | refine Zad rfl ?_ | refine Zac ?_ | refine wR ?_ | (refine rc (hin) rfl ?_ ?_; (· first | rfl | simp (disch := omega) only [go_sem, simprocAttr, Zae])) | (refine Zaa rfl rfl (fun hc => ?_) (fun hc => ?_) <;> try simp only [hcL] at hc) | (refine Zab _ rfl rfl (fun hc => ?_) (fun hc => ?_) <;> (try simp only [hcL] at hc) <;> try omega) | simp (disch := omega) only [go_sem, simprocAttr, Zae] | apply And.intro | omega | decide +kernel
         refine ⟨v + 1, ?_, ?_, ?_⟩
         ·omega
         ·try dsimp only
          rw [e1]
          exact eL [] _ _ (by refine ⟨?_, ?_⟩ <;> (repeat' first | exact fmn | refine fmc ⟨(by first | rfl | (simp (disch := omega) only [go_sem, simprocAttr, inL, bPV, lI]; first | done | omega | (congr 1; done))), ?_⟩); done)
         ·omega
       ·rw [decide_eq_false hm] at hin
        have e1 := Go.Bd.foldE_out (Zan m) m.length (f := f) (cost := cost) (rest := rest) (st := st0) hm
        have ih := hIH v hlt hm
        have en : (((l.length + 1 : Nat) : Int) - 1).toNat = l.length := by omega
        have hT : (l.map natD ++ [natD v]).take l.length = l.map natD := List.take_left' (List.length_map ..)
        rcases hst : foldE (Zan m) m.length f l cost rest st0 v with _ | ⟨b0, k0⟩
        all_goals
         rw [hst] at e1 ih
         have e3 : foldE (Zan m) m.length f l cost rest st0 (v + 1) = extF (Zan m) m.length f (l ++ [v]) (cost + moreK m l v m.length) (rest - lessK m l v m.length) _ := e1
         rw [ExtOk, ← e3] at ih
         obtain ⟨⟨b2, k2⟩, hst2⟩ : ∃ s, foldE (Zan m) m.length f l cost rest st0 (v + 1) = some s := by
          rw [e3]; exact Go.Bd.ext_some f (l ++ [v]) (hp.snoc hlt hm) _ _ _
         rw [hst2] at ih e3
         simp only [bPV, lI, List.length_append, List.length_cons, List.length_nil, List.map_append, List.map_cons, List.map_nil, Nat.zero_add] at ih ⊢
        ·repeat' first | refine Zad rfl ?_ | refine Zac ?_ | refine wR ?_ | (refine rc (hin) rfl ?_ ?_; (· first | rfl | simp (disch := omega) only [go_sem, simprocAttr, Zae])) | (refine Zaa rfl rfl (fun hc => ?_) (fun hc => ?_) <;> try simp only [hcL] at hc) | (refine Zab _ rfl rfl (fun hc => ?_) (fun hc => ?_) <;> (try simp only [hcL] at hc) <;> try omega) | simp (disch := omega) only [go_sem, simprocAttr, Zae] | apply And.intro | omega | decide +kernel
         refine Zao (κ := Nat) (fun (w : Nat) => w ≤ m.length) (fun (w : Nat) => [(0, .ptr 1000 0 0 0), (1, .int cost), (2, .int rest), (6, .int v), (7, .int (moreK m l v w)), (8, .int (lessK m l v w)), (51, .d (Zaj m)), (52, .int m.length), (53, .int v), (65, .d (Zaj m)), (66, .int m.length), (67, .int w)]) (fun (w : Nat) => [(1000, .cells [.d (Zaj m), .ref 901 1 0 l.length l.length, .nilS, .int 0]), (1001, .gone), (901, .row 1 (l.map natD))]) (fun (w : Nat) => m.length - w) 0 ?_ ?_ ?_
         ·exact Nat.zero_le _
         ·exact eL [] _ _ (by refine ⟨?_, ?_⟩ <;> (repeat' first | exact fmn | refine fmc ⟨(by first | rfl | (simp (disch := omega) only [go_sem, simprocAttr, inL, moreK, lessK, sm]; first | done | omega | (congr 1; done))), ?_⟩); done)
         ·intro w hw
          have b1 : 0 ≤ moreK m l v w ∧ moreK m l v w ≤ 1000000 * w := Go.Bd.more_bounds hs.small l hlt w hw
          have b2 : 0 ≤ lessK m l v w ∧ lessK m l v w ≤ 1000000 * w := Go.Bd.less_bounds hs.small l hlt w hw
          rcases Nat.lt_or_ge w m.length with hlw | hgw
          ·obtain ⟨p, hp1, hp2, hp3, hp4, hp5⟩ := hs.get hlt hlw
           obtain ⟨q, hq1, hq2, hq3, hq4, hq5⟩ := hs.get hlw hlt
           have hcw := containsN_spec l w
           by_cases d1 : w = v
           ·have e1 := moreK_in (m := m) (l := l) (v := v) (k := w) (fun h => h.1 d1)
            have e2 := lessK_in (m := m) (l := l) (v := v) (k := w) (fun h => h.1 d1)
            have d1I : (w : Int) = v := by omega
            repeat' first | refine Zad rfl ?_ | refine Zac ?_ | refine wR ?_ | (refine Zaa rfl rfl (fun hc => ?_) (fun hc => ?_) <;> try simp only [hcL] at hc) | (refine Zab _ rfl rfl (fun hc => ?_) (fun hc => ?_) <;> (try simp only [hcL] at hc) <;> try omega) | simp (disch := omega) only [go_sem, simprocAttr, d1I] | apply And.intro | omega | decide +kernel
            refine ⟨w + 1, ?_, eL [] _ _ (by refine ⟨?_, ?_⟩ <;> (repeat' first | exact fmn | refine fmc ⟨(by first | rfl | (simp (disch := omega) only [go_sem, simprocAttr, inL, e1, e2]; first | done | omega | (congr 1; done))), ?_⟩); done), ?_⟩
            ·omega
            ·omega
           ·have d1I : ¬ (w : Int) = v := by omega
            by_cases d2 : w ∈ l
            ·have e1 := moreK_in (m := m) (l := l) (v := v) (k := w) (fun h => h.2 d2)
             have e2 := lessK_in (m := m) (l := l) (v := v) (k := w) (fun h => h.2 d2)
             rw [decide_eq_true d2] at hcw
             repeat' first | refine Zad rfl ?_ | refine Zac ?_ | refine wR ?_ | (refine rc (hcw) rfl ?_ ?_; (· first | rfl | simp (disch := omega) only [go_sem, simprocAttr, d1I, Zae])) | (refine Zaa rfl rfl (fun hc => ?_) (fun hc => ?_) <;> try simp only [hcL] at hc) | (refine Zab _ rfl rfl (fun hc => ?_) (fun hc => ?_) <;> (try simp only [hcL] at hc) <;> try omega) | simp (disch := omega) only [go_sem, simprocAttr, d1I, Zae] | apply And.intro | omega | decide +kernel
             refine ⟨w + 1, ?_, eL [] _ _ (by refine ⟨?_, ?_⟩ <;> (repeat' first | exact fmn | refine fmc ⟨(by first | rfl | (simp (disch := omega) only [go_sem, simprocAttr, inL, e1, e2]; first | done | omega | (congr 1; done))), ?_⟩); done), ?_⟩
             ·omega
             ·omega
            ·have e1 := moreK_out (m := m) (l := l) (v := v) (k := w) ⟨d1, d2⟩
             have e2 := lessK_out (m := m) (l := l) (v := v) (k := w) ⟨d1, d2⟩
             rw [decide_eq_false d2] at hcw
             repeat' first | refine Zad rfl ?_ | refine Zac ?_ | refine wR ?_ | (refine rc (hcw) rfl ?_ ?_; (· first | rfl | simp (disch := omega) only [go_sem, simprocAttr, d1I, Zae, hp1, hp3, hq1, hq3, iteI_min])) | (refine Zaa rfl rfl (fun hc => ?_) (fun hc => ?_) <;> try simp only [hcL] at hc) | (refine Zab _ rfl rfl (fun hc => ?_) (fun hc => ?_) <;> (try simp only [hcL] at hc) <;> try omega) | simp (disch := omega) only [go_sem, simprocAttr, d1I, Zae, hp1, hp3, hq1, hq3, iteI_min] | apply And.intro | omega | decide +kernel
             refine ⟨w + 1, ?_, eL [] _ _ (by refine ⟨?_, ?_⟩ <;> (repeat' first | exact fmn | refine fmc ⟨(by first | rfl | (simp (disch := omega) only [go_sem, simprocAttr, inL, e1, e2]; first | done | omega | (congr 1; done))), ?_⟩); done), ?_⟩
             ·omega
             ·omega
          ·have : w = m.length := by omega
           subst this
           repeat' first | refine Zad rfl ?_ | refine Zac ?_ | refine wR ?_ | refine rcM [(1001, 125), (2000, 904)] (ih) rfl ?_ | (refine Zaa rfl rfl (fun hc => ?_) (fun hc => ?_) <;> try simp only [hcL] at hc) | (refine Zab _ rfl rfl (fun hc => ?_) (fun hc => ?_) <;> (try simp only [hcL] at hc) <;> try omega) | simp (disch := omega) only [go_sem, simprocAttr, Zba, Zae, en, Nat.sub_zero] | exact nat_one v | apply And.intro | omega | decide +kernel
           refine ⟨v + 1, ?_, ?_, ?_⟩
           ·omega
           ·try dsimp only
            rw [hst2]
            exact Zbg.2 (Ent.trans (ent_trunc 904 1 _ l.length rfl) (Ent.trans (ent_cap 1000 1 904 1 0 l.length (l.length + 1) l.length rfl rfl (by omega)) (Zbg.1 (eL [(901, 904)] _ _ (by refine ⟨?_, ?_⟩ <;> (repeat' first | exact List.forall_mem_nil _ | refine List.forall_mem_cons.2 ⟨(by first | rfl | (simp (disch := omega) only [go_sem, simprocAttr, inL, hT, bPV, lI, List.set_cons_succ, List.set_cons_zero]; first | done | omega | (congr 1; done))), ?_⟩); done)))))
           ·omega
        ·repeat' first | refine Zad rfl ?_ | refine Zac ?_ | refine wR ?_ | (refine rc (hin) rfl ?_ ?_; (· first | rfl | simp (disch := omega) only [go_sem, simprocAttr, Zae])) | (refine Zaa rfl rfl (fun hc => ?_) (fun hc => ?_) <;> try simp only [hcL] at hc) | (refine Zab _ rfl rfl (fun hc => ?_) (fun hc => ?_) <;> (try simp only [hcL] at hc) <;> try omega) | simp (disch := omega) only [go_sem, simprocAttr, Zae] | apply And.intro | omega | decide +kernel
         refine Zao (κ := Nat) (fun (w : Nat) => w ≤ m.length) (fun (w : Nat) => [(0, .ptr 1000 0 0 0), (1, .int cost), (2, .int rest), (6, .int v), (7, .int (moreK m l v w)), (8, .int (lessK m l v w)), (51, .d (Zaj m)), (52, .int m.length), (53, .int v), (65, .d (Zaj m)), (66, .int m.length), (67, .int w)]) (fun (w : Nat) => [(1000, .cells [.d (Zaj m), .ref 901 1 0 l.length l.length, .d (natsD b0), .int k0]), (1001, .gone), (901, .row 1 (l.map natD))]) (fun (w : Nat) => m.length - w) 0 ?_ ?_ ?_
         ·exact Nat.zero_le _
         ·exact eL [] _ _ (by refine ⟨?_, ?_⟩ <;> (repeat' first | exact fmn | refine fmc ⟨(by first | rfl | (simp (disch := omega) only [go_sem, simprocAttr, inL, moreK, lessK, sm]; first | done | omega | (congr 1; done))), ?_⟩); done)
         ·intro w hw
          have b1 : 0 ≤ moreK m l v w ∧ moreK m l v w ≤ 1000000 * w := Go.Bd.more_bounds hs.small l hlt w hw
          have b2 : 0 ≤ lessK m l v w ∧ lessK m l v w ≤ 1000000 * w := Go.Bd.less_bounds hs.small l hlt w hw
          rcases Nat.lt_or_ge w m.length with hlw | hgw
          ·obtain ⟨p, hp1, hp2, hp3, hp4, hp5⟩ := hs.get hlt hlw
           obtain ⟨q, hq1, hq2, hq3, hq4, hq5⟩ := hs.get hlw hlt
           have hcw := containsN_spec l w
           by_cases d1 : w = v
           ·have e1 := moreK_in (m := m) (l := l) (v := v) (k := w) (fun h => h.1 d1)
            have e2 := lessK_in (m := m) (l := l) (v := v) (k := w) (fun h => h.1 d1)
            have d1I : (w : Int) = v := by omega
            repeat' first | refine Zad rfl ?_ | refine Zac ?_ | refine wR ?_ | (refine Zaa rfl rfl (fun hc => ?_) (fun hc => ?_) <;> try simp only [hcL] at hc) | (refine Zab _ rfl rfl (fun hc => ?_) (fun hc => ?_) <;> (try simp only [hcL] at hc) <;> try omega) | simp (disch := omega) only [go_sem, simprocAttr, d1I] | apply And.intro | omega | decide +kernel
            refine ⟨w + 1, ?_, eL [] _ _ (by refine ⟨?_, ?_⟩ <;> (repeat' first | exact fmn | refine fmc ⟨(by first | rfl | (simp (disch := omega) only [go_sem, simprocAttr, inL, e1, e2]; first | done | omega | (congr 1; done))), ?_⟩); done), ?_⟩
            ·omega
            ·omega
           ·have d1I : ¬ (w : Int) = v := by omega
            by_cases d2 : w ∈ l
            ·have e1 := moreK_in (m := m) (l := l) (v := v) (k := w) (fun h => h.2 d2)
             have e2 := lessK_in (m := m) (l := l) (v := v) (k := w) (fun h => h.2 d2)
             rw [decide_eq_true d2] at hcw
             repeat' first | refine Zad rfl ?_ | refine Zac ?_ | refine wR ?_ | (refine rc (hcw) rfl ?_ ?_; (· first | rfl | simp (disch := omega) only [go_sem, simprocAttr, d1I, Zae])) | (refine Zaa rfl rfl (fun hc => ?_) (fun hc => ?_) <;> try simp only [hcL] at hc) | (refine Zab _ rfl rfl (fun hc => ?_) (fun hc => ?_) <;> (try simp only [hcL] at hc) <;> try omega) | simp (disch := omega) only [go_sem, simprocAttr, d1I, Zae] | apply And.intro | omega | decide +kernel
             refine ⟨w + 1, ?_, eL [] _ _ (by refine ⟨?_, ?_⟩ <;> (repeat' first | exact fmn | refine fmc ⟨(by first | rfl | (simp (disch := omega) only [go_sem, simprocAttr, inL, e1, e2]; first | done | omega | (congr 1; done))), ?_⟩); done), ?_⟩
             ·omega
             ·omega
            ·have e1 := moreK_out (m := m) (l := l) (v := v) (k := w) ⟨d1, d2⟩
             have e2 := lessK_out (m := m) (l := l) (v := v) (k := w) ⟨d1, d2⟩
             rw [decide_eq_false d2] at hcw
             repeat' first | refine Zad rfl ?_ | refine Zac ?_ | refine wR ?_ | (refine rc (hcw) rfl ?_ ?_; (· first | rfl | simp (disch := omega) only [go_sem, simprocAttr, d1I, Zae, hp1, hp3, hq1, hq3, iteI_min])) | (refine Zaa rfl rfl (fun hc => ?_) (fun hc => ?_) <;> try simp only [hcL] at hc) | (refine Zab _ rfl rfl (fun hc => ?_) (fun hc => ?_) <;> (try simp only [hcL] at hc) <;> try omega) | simp (disch := omega) only [go_sem, simprocAttr, d1I, Zae, hp1, hp3, hq1, hq3, iteI_min] | apply And.intro | omega | decide +kernel
             refine ⟨w + 1, ?_, eL [] _ _ (by refine ⟨?_, ?_⟩ <;> (repeat' first | exact fmn | refine fmc ⟨(by first | rfl | (simp (disch := omega) only [go_sem, simprocAttr, inL, e1, e2]; first | done | omega | (congr 1; done))), ?_⟩); done), ?_⟩
             ·omega
             ·omega
          ·have : w = m.length := by omega
           subst this
           repeat' first | refine Zad rfl ?_ | refine Zac ?_ | refine wR ?_ | refine rcM [(1001, 125), (2000, 904)] (ih) rfl ?_ | (refine Zaa rfl rfl (fun hc => ?_) (fun hc => ?_) <;> try simp only [hcL] at hc) | (refine Zab _ rfl rfl (fun hc => ?_) (fun hc => ?_) <;> (try simp only [hcL] at hc) <;> try omega) | simp (disch := omega) only [go_sem, simprocAttr, Zba, Zae, en, Nat.sub_zero] | exact nat_one v | apply And.intro | omega | decide +kernel
           refine ⟨v + 1, ?_, ?_, ?_⟩
           ·omega
           ·try dsimp only
            rw [hst2]
            exact Zbg.2 (Ent.trans (ent_trunc 904 1 _ l.length rfl) (Ent.trans (ent_cap 1000 1 904 1 0 l.length (l.length + 1) l.length rfl rfl (by omega)) (Zbg.1 (eL [(901, 904)] _ _ (by refine ⟨?_, ?_⟩ <;> (repeat' first | exact List.forall_mem_nil _ | refine List.forall_mem_cons.2 ⟨(by first | rfl | (simp (disch := omega) only [go_sem, simprocAttr, inL, hT, bPV, lI, List.set_cons_succ, List.set_cons_zero]; first | done | omega | (congr 1; done))), ?_⟩); done)))))
           ·omega
      ·have : v = m.length := by omega
       subst this
       rw [hend]
       simp only [bPV, lI]
       repeat' first | refine Zad rfl ?_ | refine Zac ?_ | refine wR ?_ | (refine Zaa rfl rfl (fun hc => ?_) (fun hc => ?_) <;> try simp only [hcL] at hc) | (refine Zab _ rfl rfl (fun hc => ?_) (fun hc => ?_) <;> (try simp only [hcL] at hc) <;> try omega) | simp (disch := omega) only [go_sem, simprocAttr] | apply And.intro | omega | decide +kernel
       refine ⟨_, Zbg.1 (eL [(2000, 901)] [] [(1000, .cells [.d (Zaj m), .ref 2000 1 0 l.length l.length, .d (natsD be), .int ke]), (1001, .gone), (2000, .row 1 (l.map natD))] (by constructor <;> (repeat' first | exact List.forall_mem_nil _ | refine List.forall_mem_cons.2 ⟨rfl, ?_⟩); done)), ?_⟩
       exact ⟨⟨[], rfl, trivial⟩, List.forall_mem_cons.2 ⟨rfl, List.forall_mem_cons.2 ⟨rfl, List.forall_mem_cons.2 ⟨rfl, List.forall_mem_nil _⟩⟩⟩⟩
  ·exact ext_shut m (f + 1) l st cost rest hi (by omega) hsh (by rw [Go.Bd.ext_foldE, if_pos hsh])
end Go.Proofs.YtldbcbclhpcofaaGreat
namespace Go.Proofs.YtldbcbclhpcofaaGreat
open Go Go.PS Go.Proofs
open Go.Bd (sm sumC Small low Part bestF foldB better extF foldE more less shut fixC)
set_option maxRecDepth 100000
attribute [local irreducible] Zaw wpG Zah Zai

theorem ext_all (m : List (List Int)) : extF (Zan m) m.length m.length [] 0 (low (Zan m) m.length []) none = some (Zbl m) := by
 have h := Go.Bd.ext_best (Zan m) m.length [] (part_nil _) none
 rw [bestAll_eq] at h
 exact h
set_option maxHeartbeats 1000000 in
theorem Least_spec (m : List (List Int)) : Zah Tryz.prog 26 [Zaj m] (if okM m then .tup [natsD (Zbl m).1, .int (Zbl m).2, .int 0] else .tup [.sl [], .int 0, .int 1]) := by
 have hv := bValid_spec m
 rcases h : okM m with _ | _ <;> rw [h] at hv
 ·rw [if_neg (by decide)]
  refine Zaf Tryz.func26 rfl (by decide +kernel) (Nat.le_of_ble_eq_true rfl) ?_
  intro hat B X w0
  repeat' first | refine Zad rfl ?_ | refine Zac ?_ | refine wR ?_ | (refine rc (hv) rfl ?_ ?_; (· first | rfl | simp (disch := omega) only [go_sem, simprocAttr])) | (refine Zaa rfl rfl (fun hc => ?_) (fun hc => ?_) <;> try simp only [hcL] at hc) | (refine Zab _ rfl rfl (fun hc => ?_) (fun hc => ?_) <;> (try simp only [hcL] at hc) <;> try omega) | simp (disch := omega) only [go_sem, simprocAttr] | apply And.intro | omega | decide +kernel
  exact ⟨_, rfl, Zcc rfl, Zaq rfl, Zaq rfl, trivial⟩
 ·rw [if_pos rfl]
  obtain ⟨hs, h8⟩ := ok_sq h
  have hlo := Lower_spec m h
  have hb : 0 ≤ low (Zan m) m.length [] ∧ low (Zan m) m.length [] ≤ 64000000 := by
   rw [lw_low]
   have := lw_bounds hs h8 m.length (Nat.le_refl _)
   omega
  have he := ext_main m hs h8 m.length [] (part_nil _) none 0 (low (Zan m) m.length []) ⟨fun s hs => (by cases hs), .inr rfl, by omega, by simp, by simp only [List.length_nil]; omega, by omega⟩
  rw [ExtOk, ext_all] at he
  simp only [bPV, lI, List.length_nil, List.map_nil] at he
  refine Zaf Tryz.func26 rfl (by decide +kernel) (Nat.le_of_ble_eq_true rfl) ?_
  intro hat B X w0
  repeat' first | refine Zad rfl ?_ | refine Zac ?_ | refine pw_regionB 4 rfl (fun _ => false) hmix ?_ | (refine rc (hv) rfl ?_ ?_; (· first | rfl | simp (disch := omega) only [go_sem, simprocAttr])) | (refine Zaa rfl rfl (fun hc => ?_) (fun hc => ?_) <;> try simp only [hcL] at hc) | (refine Zab _ rfl rfl (fun hc => ?_) (fun hc => ?_) <;> (try simp only [hcL] at hc) <;> try omega) | simp (disch := omega) only [go_sem, simprocAttr] | apply And.intro | omega | decide +kernel
  refine Zbc _ (Zcj 11 1 901 1 rfl rfl rfl) ?_
  repeat' first | refine Zad rfl ?_ | refine Zac ?_ | refine wR ?_ | (refine rc (hlo) rfl ?_ ?_; (· first | rfl | simp (disch := omega) only [go_sem, simprocAttr])) | refine rcM [(1000, 11), (1001, 901), (2000, 902)] (he) rfl ?_ | (refine Zaa rfl rfl (fun hc => ?_) (fun hc => ?_) <;> try simp only [hcL] at hc) | (refine Zab _ rfl rfl (fun hc => ?_) (fun hc => ?_) <;> (try simp only [hcL] at hc) <;> try omega) | simp (disch := omega) only [go_sem, simprocAttr] | apply And.intro | omega | decide +kernel
  exact ⟨_, rfl, Zcc rfl, Zaq rfl, Zaq rfl, trivial⟩
end Go.Proofs.YtldbcbclhpcofaaGreat
namespace Go.Proofs.YtldbcbclhpcofaaGreat
open Go Go.PS Go.Proofs
open Go.Bd (ix invF invN comN refN refB)
set_option maxRecDepth 100000
attribute [local irreducible] Zaw wpG Zah Zai

theorem ix_nat {l : List Int} {v : Int} (h : v ∈ l) : ix l v = ((l.idxOf v : Nat) : Int) := by rw [ix, if_pos h]
end Go.Proofs.YtldbcbclhpcofaaGreat
namespace Go.Proofs.YtldbcbclhpcofaaGreat
open Go Go.PS Go.Proofs
open Go.Bd (ix invF invN comN refN refB)
set_option maxRecDepth 100000
attribute [local irreducible] Zaw wpG Zah Zai

theorem Zbn {l : List (List Int)} {k : Nat} {y : List Int} (h : l[k]? = some y) : lstN l k = y := by rw [lstN, h]; rfl
theorem lstN_out {l : List (List Int)} {k : Nat} (h : l.length ≤ k) : lstN l k = [] := by rw [lstN, List.getElem?_eq_none h]; rfl
def okW (a : Lv) (w : Int) : Bool := Zax a && decide (0 ≤ w ∧ w ≤ 1000)
def invS (a : Lv) (old : List (List Int)) (k : Nat) : Int := sumZ (fun i => (invF (lstN old i) (lstN a.2.1 i) : Int)) k
def costF (a : Lv) (old : List (List Int)) (w : Int) : Int := if okW a w then Zbf a + w * invS a old a.2.1.length else -1
theorem layer_le {a : Lv} (h : Zax a = true) (k : Nat) : (lstN a.2.1 k).length ≤ 512 := by
 obtain ⟨t1, t2⟩ := Zcm h
 rcases Nat.lt_or_ge k a.2.1.length with hlt | hge
 ·obtain ⟨y, hy⟩ := Zam hlt
  rw [Zbn hy]
  have := Zbp (List.mem_of_getElem? hy)
  omega
 ·rw [lstN_out hge]; simp
end Go.Proofs.YtldbcbclhpcofaaGreat
namespace Go.Proofs.YtldbcbclhpcofaaGreat
open Go Go.PS Go.Proofs
open Go.Bd (ix invF invN comN refN refB)
set_option maxRecDepth 100000
attribute [local irreducible] Zaw wpG Zah Zai

def rowG (g : Nat → Int) (n : Nat) : List Int := (List.range n).map g
def mixR (f g : Nat → Int) (n b : Nat) : List Int := rowG (fun v => if v < b then g v else f v) n
theorem rowG_len (g : Nat → Int) (n : Nat) : (rowG g n).length = n := by simp [rowG]
theorem rowG_get {g : Nat → Int} {n v : Nat} (h : v < n) : (rowG g n)[v]? = some (g v) := by simp [rowG, h]
theorem rowG_congr {f g : Nat → Int} {n : Nat} (h : ∀ v, v < n → f v = g v) : rowG f n = rowG g n := List.map_congr_left fun v hv => h v (List.mem_range.1 hv)
theorem mixR_len (f g : Nat → Int) (n b : Nat) : (mixR f g n b).length = n := rowG_len _ _
theorem mixR_zero (f g : Nat → Int) (n : Nat) : mixR f g n 0 = rowG f n := rowG_congr fun v _ => if_neg (by omega)
theorem mixR_full (f g : Nat → Int) (n : Nat) : mixR f g n n = rowG g n := rowG_congr fun v hv => if_pos hv
theorem mixR_get {f g : Nat → Int} {n b : Nat} (h : b < n) : (mixR f g n b)[b]? = some (f b) := by rw [mixR, rowG_get h, if_neg (by omega)]
theorem mixR_step {f g : Nat → Int} {n b : Nat} (h : b < n) : (mixR f g n b).set b (g b) = mixR f g n (b + 1) := by
 refine List.ext_getElem? fun v => ?_
 rw [List.getElem?_set, mixR_len]
 by_cases c : b = v
 ·subst c
  rw [if_pos rfl, if_pos h, mixR, rowG_get h, if_pos (by omega)]
 ·rw [if_neg c]
  by_cases c2 : v < n
  ·rw [mixR, mixR, rowG_get c2, rowG_get c2]
   by_cases c3 : v < b
   ·rw [if_pos c3, if_pos (by omega)]
   ·rw [if_neg c3, if_neg (by omega)]
  ·rw [List.getElem?_eq_none (by rw [mixR_len]; omega), List.getElem?_eq_none (by rw [mixR_len]; omega)]
theorem rowG_zero (n : Nat) : List.replicate n (D.int 0) = (rowG (fun _ => 0) n).map D.int := by
 rw [rowG, List.map_map]
 refine List.ext_getElem? fun v => ?_
 by_cases c : v < n <;> simp [List.getElem?_replicate, c]
def wCell (old y : List Int) (w : Int) (u v : Nat) : Int := if 0 ≤ ix old (at0 y v) ∧ ix old (at0 y v) < ix old (at0 y u) then w else 0
def fixT (i : Nat) (t : Nat) : Int := if t = 0 then (i : Int) - 1 else (i : Int) + 1
def accC (a : Lv) (old y : List Int) (w : Int) (i : Nat) : Nat → Nat → Nat → Int
 | 0, u, v => wCell old y w u v
 | t + 1, u, v => accC a old y w i t u v + Zan (Zat a i (fixT i t)) u v
def sqM (g : Nat → Nat → Int) (n : Nat) : List (List Int) := (List.range n).map fun u => rowG (g u) n
def stM (a : Lv) (old y : List Int) (w : Int) (i : Nat) : List (List Int) := sqM (accC a old y w i 2) y.length
theorem cellAt_le {m : List (List Int)} (h : Sq m) (u v : Nat) : 0 ≤ Zan m u v ∧ Zan m u v ≤ 1000000 := by
 by_cases hu : u < m.length
 ·by_cases hv : v < m.length
  ·obtain ⟨_, _, _, _, h1, h2⟩ := h.get hu hv
   exact ⟨h1, h2⟩
  ·obtain ⟨p, hp⟩ := Zam hu
   have := h.row p (List.mem_of_getElem? hp)
   rw [Zan, Zbn hp, at0, Int.toNat_natCast, List.getElem?_eq_none (by omega)]; decide
 ·rw [Zan, lstN_out (by omega)]; simp [at0]
theorem accC_le (a : Lv) (old y : List Int) {w : Int} (hw : 0 ≤ w ∧ w ≤ 1000) (i : Nat) : ∀ t u v, 0 ≤ accC a old y w i t u v ∧ accC a old y w i t u v ≤ 1000 + 1000000 * t
 | 0, u, v => by
  rw [accC, wCell]; split <;> omega
 | t + 1, u, v => by
  have ih := accC_le a old y hw i t u v
  have := cellAt_le (MatrixF_sq a i (fixT i t)) u v
  rw [accC]; omega
end Go.Proofs.YtldbcbclhpcofaaGreat
namespace Go.Proofs.YtldbcbclhpcofaaGreat
open Go Go.PS Go.Proofs
open Go.Bd (ix invF invN comN refN refB)
set_option maxRecDepth 100000
attribute [local irreducible] Zaw wpG Zah Zai

end Go.Proofs.YtldbcbclhpcofaaGreat
namespace Go.Proofs.YtldbcbclhpcofaaGreat
open Go Go.PS Go.Proofs
open Go.Bd (ix invF invN comN refN refB)
set_option maxRecDepth 100000
attribute [local irreducible] Zaw wpG Zah Zai

end Go.Proofs.YtldbcbclhpcofaaGreat
