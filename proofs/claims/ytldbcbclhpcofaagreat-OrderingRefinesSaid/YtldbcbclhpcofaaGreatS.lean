/- What the laws' arguments are as data. -/
import Derived.Test.YtldbcbclhpcofaaGreatE
import Derived.Test.YtldbcbclhpcofaaGreatPSBridge
import Derived.Test.YtldbcbclhpcofaaGreatCh
import Derived.Test.YtldbcbclhpcofaaGreatPSFam
set_option linter.unusedSimpArgs false
set_option linter.unusedVariables false
namespace Go.Proofs.YtldbcbclhpcofaaGreat
open Go Go.PS Go.Proofs
set_option maxRecDepth 100000
theorem cells_int {n : Nat} {cs : List D} (h : CellsOk Tryz.prog (n + 1) 3 cs) : ∃ m : Int, cs = [.int m] := by
 have hu : Tryz.prog.underlying 3 = some (.int .i64) := by kernel_rfl
 simp only [CellsOk, hu] at h
 obtain ⟨m, rfl, _⟩ := h
 exact ⟨m, rfl⟩
theorem arg_int {x : D} (h : ArgOk Tryz.prog 3 x) : ∃ m : Int, x = .int m := by
 obtain ⟨cs, h, rfl⟩ := h
 obtain ⟨m, rfl⟩ := cells_int h
 rw [ty3]
 exact ⟨m, rfl⟩
theorem cells_arc {n : Nat} {cs : List D} (h : CellsOk Tryz.prog (n + 2) 44 cs) : ∃ p : Arc, cs = [.int p.1, .int p.2] := by
 have h := cells_struct (ts := [3, 3]) (by kernel_rfl) h
 obtain ⟨p, r, rfl, hp, q, r', rfl, hq, rfl⟩ := h
 obtain ⟨a, rfl⟩ := cells_int hp
 obtain ⟨b, rfl⟩ := cells_int hq
 exact ⟨(a, b), rfl⟩
theorem cells_arcs {n : Nat} {cs : List D} (h : CellsOk Tryz.prog (n + 3) 23 cs) : ∃ l : List Arc, cs = [arcsD l] := by
 obtain ⟨l, rfl, hl⟩ := cells_slice (e := 44) (by kernel_rfl) h
 obtain ⟨ys, rfl⟩ := map_of (f := arcD) (l := l) (fun d hd => by
  obtain ⟨es, rfl, _, he⟩ := hl d hd
  obtain ⟨p, rfl⟩ := cells_arc he
  rw [ty44]; exact ⟨p, rfl⟩)
 exact ⟨ys, rfl⟩
theorem cells_ints {n : Nat} {cs : List D} (h : CellsOk Tryz.prog (n + 2) 37 cs) : ∃ l : List Int, cs = [intsD l] ∧ l.length * 8 ≤ 140737488351232 := by
 obtain ⟨l, rfl, hb, hl⟩ := cells_sliceS (e := 3) (by kernel_rfl) h
 obtain ⟨ys, rfl⟩ := map_of (f := D.int) (l := l) (fun d hd => by
  obtain ⟨es, rfl, _, he⟩ := hl d hd
  obtain ⟨p, rfl⟩ := cells_int he
  rw [ty3]; exact ⟨p, rfl⟩)
 refine ⟨ys, rfl, ?_⟩
 have hb3 : Tryz.prog.bytesOf 3 = 8 := by kernel_rfl
 rw [hb3, List.length_map] at hb
 exact hb
theorem map_of2 {α : Type} {f : α → D} {p : α → Prop} : ∀ {l : List D}, (∀ d ∈ l, ∃ a, d = f a ∧ p a) → ∃ ys : List α, l = ys.map f ∧ ∀ y ∈ ys, p y
 | [], _ => ⟨[], rfl, fun y hy => by cases hy⟩
 | d :: l, h => by
  obtain ⟨a, rfl, ha⟩ := h d (by simp)
  obtain ⟨ys, rfl, hy⟩ := map_of2 (l := l) (fun e he => h e (List.mem_cons_of_mem _ he))
  refine ⟨a :: ys, rfl, fun y hy2 => ?_⟩
  rcases List.mem_cons.1 hy2 with rfl | hy2
  ·exact ha
  ·exact hy y hy2
theorem cells_lists {n : Nat} {cs : List D} (h : CellsOk Tryz.prog (n + 3) 22 cs) : ∃ l : List (List Int), cs = [listsD l] ∧ ∀ y ∈ l, y.length * 8 ≤ 140737488351232 := by
 obtain ⟨l, rfl, hl⟩ := cells_slice (e := 37) (by kernel_rfl) h
 obtain ⟨ys, rfl, hy⟩ := map_of2 (f := intsD) (p := fun y => y.length * 8 ≤ 140737488351232) (l := l) (fun d hd => by
  obtain ⟨es, rfl, _, he⟩ := hl d hd
  obtain ⟨p, rfl, hp⟩ := cells_ints he
  rw [ty37]; exact ⟨p, rfl, hp⟩)
 exact ⟨ys, rfl, hy⟩
theorem arg_lv {x : D} (h : ArgOk Tryz.prog 25 x) : ∃ a : {a : Lv // wide a}, x = lvD a.1 := by
 obtain ⟨cs, h, rfl⟩ := h
 have h := cells_struct (ts := [3, 22, 23, 22]) (by kernel_rfl) h
 obtain ⟨_, _, rfl, h1, _, _, rfl, h2, _, _, rfl, h3, _, _, rfl, h4, rfl⟩ := h
 obtain ⟨a, rfl⟩ := cells_int h1
 obtain ⟨b, rfl, hb⟩ := cells_lists h2
 obtain ⟨c, rfl⟩ := cells_arcs h3
 obtain ⟨d, rfl, _⟩ := cells_lists h4
 rw [ty25]
 exact ⟨⟨(a, b, c, d), hb⟩, rfl⟩
end Go.Proofs.YtldbcbclhpcofaaGreat
namespace Go.Proofs.YtldbcbclhpcofaaGreat
open Go Go.PS Go.Proofs
open Go.Bd (sm sumC Small)
set_option maxRecDepth 100000
attribute [local irreducible] wpRun wpG CallsTo CallsM

abbrev natD (v : Nat) : D := .int (v : Int)
abbrev natsD (l : List Nat) : D := .sl (l.map natD)
theorem nats_ints (l : List Nat) : natsD l = intsD (l.map fun v : Nat => (v : Int)) := by rw [natsD, intsD, List.map_map]; rfl
theorem nat_cells (l : List Nat) : ∀ d, d ∈ l.map natD → d.cells.length = 1 := cells_map natD 1 (fun _ => rfl) l
theorem nat_one (v : Nat) : ∀ d, d ∈ [natD v] → d.cells.length = 1 := fun d hd => by rw [List.mem_singleton.1 hd]; rfl
theorem mem_nats {l : List Nat} {v : Nat} : (v : Int) ∈ l.map (fun v : Nat => (v : Int)) ↔ v ∈ l := by
 simp [List.mem_map, Int.ofNat_inj]
theorem placeF_mem (l : List Int) (v : Int) : decide (0 ≤ placeF l v) = decide (v ∈ l) := by
 rw [placeF_iff, Bool.eq_iff_iff, List.any_eq_true]
 simp
theorem containsI_spec (l : List Int) (v : Int) : CallsTo Tryz.prog 85 [intsD l, .int v] (.bool (decide (v ∈ l))) := by
 have h := index_spec l v
 rw [← placeF_mem]
 refine callsTo_of Tryz.func85 rfl (by decide +kernel) (Nat.le_of_ble_eq_true rfl) ?_
 intro hat B X w0
 repeat' first | refine pw_seq ?_ | refine pw_skip ?_ | refine pw_ret ?_ | refine pw_exit ?_ | refine pw_block ?_ | refine pw_region (fun _ => false) hmix ?_ | (refine rc (h) rfl ?_ ?_; (· first | rfl | (simp (disch := omega) only [go_sem, simprocAttr]; done))) | (refine wpG_split rfl rfl (fun hc => ?_) (fun hc => ?_) <;> try simp only [hcL, reduceCtorEq] at hc) | (refine pw_cond _ rfl rfl (fun hc => ?_) (fun hc => ?_) <;> (try simp only [hcL, reduceCtorEq] at hc) <;> try (exfalso; omega)) | simp (maxSteps := 1000000) (disch := omega) only [go_sem, simprocAttr] | apply And.intro | omega | decide +kernel
 exact bool_some rfl
theorem containsN_spec (l : List Nat) (v : Nat) : CallsTo Tryz.prog 85 [natsD l, .int v] (.bool (decide (v ∈ l))) := by
 have h := containsI_spec (l.map fun v : Nat => (v : Int)) v
 rw [← nats_ints, decide_eq_decide.2 mem_nats] at h
 exact h
theorem in_spec (l : List Int) (v : Int) : CallsTo Tryz.prog 89 [intsD l, .int v] (.bool (decide (v ∈ l))) := by
 refine callsTo_of Tryz.func89 rfl (by decide +kernel) (Nat.le_of_ble_eq_true rfl) ?_
 intro hat B X w0
 have hl := at_len 0 hat rfl
 rw [List.length_map] at hl
 repeat' first | refine pw_seq ?_ | refine pw_skip ?_ | refine pw_ret ?_ | refine pw_exit ?_ | refine pw_block ?_ | refine pw_region (fun _ => false) hmix ?_ | (refine wpG_split rfl rfl (fun hc => ?_) (fun hc => ?_) <;> try simp only [hcL, reduceCtorEq] at hc) | (refine pw_cond _ rfl rfl (fun hc => ?_) (fun hc => ?_) <;> (try simp only [hcL, reduceCtorEq] at hc) <;> try (exfalso; omega)) | simp (maxSteps := 1000000) (disch := omega) only [go_sem, simprocAttr] | apply And.intro | omega | decide +kernel
 refine pw_loopI (κ := Nat) (fun (k : Nat) => k ≤ l.length ∧ ∀ (j : Nat) y, j < k → l[j]? = some y → y ≠ v) (fun (k : Nat) => [(0, .d (intsD l)), (1, .int v), (5, .int k)]) (fun (k : Nat) => []) (fun (k : Nat) => l.length - k) 0 ?_ ?_ ?_
 ·exact ⟨Nat.zero_le _, fun j y hj => by omega⟩
 ·exact eL [] _ _ (by refine ⟨?_, ?_⟩ <;> (repeat' first | exact List.forall_mem_nil _ | refine List.forall_mem_cons.2 ⟨(by first | rfl | (simp (disch := omega) only [go_sem, simprocAttr, inL]; first | done | omega | (congr 1; done))), ?_⟩); done)
 ·rintro k ⟨hk, hinv⟩
  rcases Nat.lt_or_ge k l.length with hlt | hge
  ·obtain ⟨y, hy⟩ := get_some hlt
   by_cases c : y = v
   ·repeat' first | refine pw_seq ?_ | refine pw_skip ?_ | refine pw_ret ?_ | refine pw_exit ?_ | refine pw_block ?_ | refine pw_region (fun _ => false) hmix ?_ | (refine wpG_split rfl rfl (fun hc => ?_) (fun hc => ?_) <;> try simp only [hcL, reduceCtorEq] at hc) | (refine pw_cond _ rfl rfl (fun hc => ?_) (fun hc => ?_) <;> (try simp only [hcL, reduceCtorEq] at hc) <;> try (exfalso; omega)) | simp (maxSteps := 1000000) (disch := omega) only [go_sem, simprocAttr, hy, c] | apply And.intro | omega | decide +kernel
    refine bool_some ?_
    rw [decide_eq_true (c ▸ List.mem_of_getElem? hy)]
   ·repeat' first | refine pw_seq ?_ | refine pw_skip ?_ | refine pw_ret ?_ | refine pw_exit ?_ | refine pw_block ?_ | refine pw_region (fun _ => false) hmix ?_ | (refine wpG_split rfl rfl (fun hc => ?_) (fun hc => ?_) <;> try simp only [hcL, reduceCtorEq] at hc) | (refine pw_cond _ rfl rfl (fun hc => ?_) (fun hc => ?_) <;> (try simp only [hcL, reduceCtorEq] at hc) <;> try (exfalso; omega)) | simp (maxSteps := 1000000) (disch := omega) only [go_sem, simprocAttr, hy, c] | apply And.intro | omega | decide +kernel
    refine ⟨k + 1, ?_, eL [] _ _ (by refine ⟨?_, ?_⟩ <;> (repeat' first | exact List.forall_mem_nil _ | refine List.forall_mem_cons.2 ⟨(by first | rfl | (simp (disch := omega) only [go_sem, simprocAttr, inL]; first | done | omega | (congr 1; done))), ?_⟩); done), ?_⟩
    ·exact ⟨by omega, upto_succ hinv hy c⟩
    ·omega
  ·repeat' first | refine pw_seq ?_ | refine pw_skip ?_ | refine pw_ret ?_ | refine pw_exit ?_ | refine pw_block ?_ | refine pw_region (fun _ => false) hmix ?_ | (refine wpG_split rfl rfl (fun hc => ?_) (fun hc => ?_) <;> try simp only [hcL, reduceCtorEq] at hc) | (refine pw_cond _ rfl rfl (fun hc => ?_) (fun hc => ?_) <;> (try simp only [hcL, reduceCtorEq] at hc) <;> try (exfalso; omega)) | simp (maxSteps := 1000000) (disch := omega) only [go_sem, simprocAttr] | apply And.intro | omega | decide +kernel
   refine bool_some ?_
   rw [decide_eq_false]
   intro hm
   obtain ⟨j, hj⟩ := List.getElem?_of_mem hm
   exact hinv j v (by have := (List.getElem?_eq_some_iff.1 hj).1; omega) hj rfl
theorem inN_spec (l : List Nat) (v : Nat) : CallsTo Tryz.prog 89 [natsD l, .int v] (.bool (decide (v ∈ l))) := by
 have h := in_spec (l.map fun v : Nat => (v : Int)) v
 rw [← nats_ints, decide_eq_decide.2 mem_nats] at h
 exact h
def badC (x : Int) : Bool := decide (x < 0) || decide (1000000 < x)
def badRow (n : Nat) (p : List Int) : Bool := decide (p.length ≠ n) || p.any badC
def okM (m : List (List Int)) : Bool := decide (m.length ≤ 8) && !m.any (badRow m.length)
theorem ok_sq {m : List (List Int)} (h : okM m = true) : Sq m ∧ m.length ≤ 8 := by
 simp only [okM, Bool.and_eq_true, decide_eq_true_eq, Bool.not_eq_true', List.any_eq_false] at h
 obtain ⟨h1, h2⟩ := h
 have hr : ∀ p, p ∈ m → p.length = m.length ∧ ∀ x, x ∈ p → 0 ≤ x ∧ x ≤ 1000000 := fun p hp => by
  have := h2 p hp
  simp only [badRow, Bool.or_eq_true, decide_eq_true_eq, not_or, Bool.not_eq_true, List.any_eq_false] at this
  refine ⟨by omega, fun x hx => ?_⟩
  have := this.2 x hx
  simp only [badC, Bool.or_eq_true, Bool.or_eq_false_iff, decide_eq_true_eq, decide_eq_false_iff_not, not_or] at this
  omega
 exact ⟨⟨by omega, fun p hp => (hr p hp).1, fun p hp => (hr p hp).2⟩, h1⟩
theorem sq_ok {m : List (List Int)} (h : Sq m) (h8 : m.length ≤ 8) : okM m = true := by
 simp only [okM, Bool.and_eq_true, decide_eq_true_eq, Bool.not_eq_true', List.any_eq_false]
 refine ⟨h8, fun p hp => ?_⟩
 simp only [badRow, Bool.or_eq_true, decide_eq_true_eq, not_or, Bool.not_eq_true, List.any_eq_false]
 refine ⟨fun hne => hne (h.row p hp), fun x hx => ?_⟩
 have := h.val p hp x hx
 simp only [badC, Bool.or_eq_true, Bool.or_eq_false_iff, decide_eq_true_eq, decide_eq_false_iff_not, not_or]
 omega
theorem Sq.small {m : List (List Int)} (h : Sq m) : Small (cellAt m) m.length := fun u v hu hv => by
 obtain ⟨p, _, _, _, g1, g2⟩ := h.get hu hv
 exact ⟨g1, g2⟩
theorem bad1_spec (x : Int) : CallsTo Tryz.prog 84 [.int x] (.bool (badC x)) := by
 refine callsTo_of Tryz.func84 rfl (by decide +kernel) (Nat.le_of_ble_eq_true rfl) ?_
 intro hat B X w0
 repeat' first | refine pw_seq ?_ | refine pw_skip ?_ | refine pw_ret ?_ | refine pw_exit ?_ | refine pw_block ?_ | refine pw_region (fun _ => false) hmix ?_ | (refine wpG_split rfl rfl (fun hc => ?_) (fun hc => ?_) <;> try simp only [hcL, reduceCtorEq] at hc) | (refine pw_cond _ rfl rfl (fun hc => ?_) (fun hc => ?_) <;> (try simp only [hcL, reduceCtorEq] at hc) <;> try (exfalso; omega)) | simp (maxSteps := 1000000) (disch := omega) only [go_sem, simprocAttr] | apply And.intro | omega | decide +kernel
 all_goals
  refine bool_some ?_
  simp only [badC, *, decide_true, decide_false, Bool.true_or, Bool.or_true, Bool.false_or, Bool.or_false]
set_option maxHeartbeats 1000000 in
theorem bValid_spec (m : List (List Int)) : CallsTo Tryz.prog 50 [listsD m] (.bool (okM m)) := by
 refine callsTo_of Tryz.func50 rfl (by decide +kernel) (Nat.le_of_ble_eq_true rfl) ?_
 intro hat B X w0
 have hl := at_len 0 hat rfl
 rw [List.length_map] at hl
 by_cases c8 : 8 < m.length
 ·repeat' first | refine pw_seq ?_ | refine pw_skip ?_ | refine pw_ret ?_ | refine pw_exit ?_ | refine pw_block ?_ | refine pw_region (fun _ => false) hmix ?_ | (refine wpG_split rfl rfl (fun hc => ?_) (fun hc => ?_) <;> try simp only [hcL, reduceCtorEq] at hc) | (refine pw_cond _ rfl rfl (fun hc => ?_) (fun hc => ?_) <;> (try simp only [hcL, reduceCtorEq] at hc) <;> try (exfalso; omega)) | simp (maxSteps := 1000000) (disch := omega) only [go_sem, simprocAttr] | apply And.intro | omega | decide +kernel
  refine bool_some ?_
  rw [okM, decide_eq_false (by omega)]; rfl
 ·repeat' first | refine pw_seq ?_ | refine pw_skip ?_ | refine pw_ret ?_ | refine pw_exit ?_ | refine pw_block ?_ | refine pw_region (fun _ => false) hmix ?_ | (refine wpG_split rfl rfl (fun hc => ?_) (fun hc => ?_) <;> try simp only [hcL, reduceCtorEq] at hc) | (refine pw_cond _ rfl rfl (fun hc => ?_) (fun hc => ?_) <;> (try simp only [hcL, reduceCtorEq] at hc) <;> try (exfalso; omega)) | simp (maxSteps := 1000000) (disch := omega) only [go_sem, simprocAttr] | apply And.intro | omega | decide +kernel
  refine pw_loopI (κ := Nat) (fun (k : Nat) => k ≤ m.length ∧ ∀ (j : Nat) y, j < k → m[j]? = some y → badRow m.length y = false) (fun (k : Nat) => [(0, .d (listsD m)), (8, .d (listsD m)), (9, .int m.length), (10, .int k)]) (fun (k : Nat) => []) (fun (k : Nat) => m.length - k) 0 ?_ ?_ ?_
  ·exact ⟨Nat.zero_le _, fun j y hj => by omega⟩
  ·exact eL [] _ _ (by refine ⟨?_, ?_⟩ <;> (repeat' first | exact List.forall_mem_nil _ | refine List.forall_mem_cons.2 ⟨(by first | rfl | (simp (disch := omega) only [go_sem, simprocAttr, inL]; first | done | omega | (congr 1; done))), ?_⟩); done)
  ·rintro k ⟨hk, hinv⟩
   rcases Nat.lt_or_ge k m.length with hlt | hge
   ·obtain ⟨p, hp⟩ := get_some hlt
    have hcf := containsF_spec p 84 badC bad1_spec
    by_cases c : p.length = m.length
    ·have cI : (p.length : Int) = m.length := by omega
     rcases hb : p.any badC with _ | _ <;> rw [hb] at hcf
     ·repeat' first | refine pw_seq ?_ | refine pw_skip ?_ | refine pw_ret ?_ | refine pw_exit ?_ | refine pw_block ?_ | refine pw_region (fun _ => false) hmix ?_ | (refine rc (hcf) rfl ?_ ?_; (· first | rfl | (simp (disch := omega) only [go_sem, simprocAttr, hp, cI]; done))) | (refine wpG_split rfl rfl (fun hc => ?_) (fun hc => ?_) <;> try simp only [hcL, reduceCtorEq] at hc) | (refine pw_cond _ rfl rfl (fun hc => ?_) (fun hc => ?_) <;> (try simp only [hcL, reduceCtorEq] at hc) <;> try (exfalso; omega)) | simp (maxSteps := 1000000) (disch := omega) only [go_sem, simprocAttr, hp, cI] | apply And.intro | omega | decide +kernel
      refine ⟨k + 1, ?_, eL [] _ _ (by refine ⟨?_, ?_⟩ <;> (repeat' first | exact List.forall_mem_nil _ | refine List.forall_mem_cons.2 ⟨(by first | rfl | (simp (disch := omega) only [go_sem, simprocAttr, inL]; first | done | omega | (congr 1; done))), ?_⟩); done), ?_⟩
      ·exact ⟨by omega, upto_succ hinv hp (by rw [badRow, hb, decide_eq_false (by omega)]; rfl)⟩
      ·omega
     ·repeat' first | refine pw_seq ?_ | refine pw_skip ?_ | refine pw_ret ?_ | refine pw_exit ?_ | refine pw_block ?_ | refine pw_region (fun _ => false) hmix ?_ | (refine rc (hcf) rfl ?_ ?_; (· first | rfl | (simp (disch := omega) only [go_sem, simprocAttr, hp, cI]; done))) | (refine wpG_split rfl rfl (fun hc => ?_) (fun hc => ?_) <;> try simp only [hcL, reduceCtorEq] at hc) | (refine pw_cond _ rfl rfl (fun hc => ?_) (fun hc => ?_) <;> (try simp only [hcL, reduceCtorEq] at hc) <;> try (exfalso; omega)) | simp (maxSteps := 1000000) (disch := omega) only [go_sem, simprocAttr, hp, cI] | apply And.intro | omega | decide +kernel
      refine bool_some ?_
      rw [okM, any_at hp (by rw [badRow, hb, Bool.or_true])]; simp
    ·have cI : ¬ (p.length : Int) = m.length := by omega
     repeat' first | refine pw_seq ?_ | refine pw_skip ?_ | refine pw_ret ?_ | refine pw_exit ?_ | refine pw_block ?_ | refine pw_region (fun _ => false) hmix ?_ | (refine rc (hcf) rfl ?_ ?_; (· first | rfl | (simp (disch := omega) only [go_sem, simprocAttr, hp, cI]; done))) | (refine wpG_split rfl rfl (fun hc => ?_) (fun hc => ?_) <;> try simp only [hcL, reduceCtorEq] at hc) | (refine pw_cond _ rfl rfl (fun hc => ?_) (fun hc => ?_) <;> (try simp only [hcL, reduceCtorEq] at hc) <;> try (exfalso; omega)) | simp (maxSteps := 1000000) (disch := omega) only [go_sem, simprocAttr, hp, cI] | apply And.intro | omega | decide +kernel
     refine bool_some ?_
     rw [okM, any_at hp (by rw [badRow, decide_eq_true c, Bool.true_or])]; simp
   ·repeat' first | refine pw_seq ?_ | refine pw_skip ?_ | refine pw_ret ?_ | refine pw_exit ?_ | refine pw_block ?_ | refine pw_region (fun _ => false) hmix ?_ | (refine wpG_split rfl rfl (fun hc => ?_) (fun hc => ?_) <;> try simp only [hcL, reduceCtorEq] at hc) | (refine pw_cond _ rfl rfl (fun hc => ?_) (fun hc => ?_) <;> (try simp only [hcL, reduceCtorEq] at hc) <;> try (exfalso; omega)) | simp (maxSteps := 1000000) (disch := omega) only [go_sem, simprocAttr] | apply And.intro | omega | decide +kernel
    refine bool_some ?_
    rw [okM, any_no fun j y hj => hinv j y (by omega), decide_eq_true (by omega)]; rfl
set_option maxHeartbeats 1000000 in
theorem rbValid_spec (m : List (List Int)) : CallsTo Tryz.prog 57 [listsD m] (.bool (okM m)) := by
 refine callsTo_of Tryz.func57 rfl (by decide +kernel) (Nat.le_of_ble_eq_true rfl) ?_
 intro hat B X w0
 have hl := at_len 0 hat rfl
 rw [List.length_map] at hl
 by_cases c8 : 8 < m.length
 ·repeat' first | refine pw_seq ?_ | refine pw_skip ?_ | refine pw_ret ?_ | refine pw_exit ?_ | refine pw_block ?_ | refine pw_region (fun _ => false) hmix ?_ | (refine wpG_split rfl rfl (fun hc => ?_) (fun hc => ?_) <;> try simp only [hcL, reduceCtorEq] at hc) | (refine pw_cond _ rfl rfl (fun hc => ?_) (fun hc => ?_) <;> (try simp only [hcL, reduceCtorEq] at hc) <;> try (exfalso; omega)) | simp (maxSteps := 1000000) (disch := omega) only [go_sem, simprocAttr] | apply And.intro | omega | decide +kernel
  refine bool_some ?_
  rw [okM, decide_eq_false (by omega)]; rfl
 ·repeat' first | refine pw_seq ?_ | refine pw_skip ?_ | refine pw_ret ?_ | refine pw_exit ?_ | refine pw_block ?_ | refine pw_region (fun _ => false) hmix ?_ | (refine wpG_split rfl rfl (fun hc => ?_) (fun hc => ?_) <;> try simp only [hcL, reduceCtorEq] at hc) | (refine pw_cond _ rfl rfl (fun hc => ?_) (fun hc => ?_) <;> (try simp only [hcL, reduceCtorEq] at hc) <;> try (exfalso; omega)) | simp (maxSteps := 1000000) (disch := omega) only [go_sem, simprocAttr] | apply And.intro | omega | decide +kernel
  refine pw_loopI (κ := Nat) (fun (k : Nat) => k ≤ m.length ∧ ∀ (j : Nat) y, j < k → m[j]? = some y → badRow m.length y = false) (fun (k : Nat) => [(0, .d (listsD m)), (3, .int k)]) (fun (k : Nat) => []) (fun (k : Nat) => m.length - k) 0 ?_ ?_ ?_
  ·exact ⟨Nat.zero_le _, fun j y hj => by omega⟩
  ·exact eL [] _ _ (by refine ⟨?_, ?_⟩ <;> (repeat' first | exact List.forall_mem_nil _ | refine List.forall_mem_cons.2 ⟨(by first | rfl | (simp (disch := omega) only [go_sem, simprocAttr, inL]; first | done | omega | (congr 1; done))), ?_⟩); done)
  ·rintro k ⟨hk, hinv⟩
   rcases Nat.lt_or_ge k m.length with hlt | hge
   ·obtain ⟨p, hp⟩ := get_some hlt
    by_cases c : p.length = m.length
    ·have cI : (p.length : Int) = m.length := by omega
     repeat' first | refine pw_seq ?_ | refine pw_skip ?_ | refine pw_ret ?_ | refine pw_exit ?_ | refine pw_block ?_ | refine pw_region (fun _ => false) hmix ?_ | (refine wpG_split rfl rfl (fun hc => ?_) (fun hc => ?_) <;> try simp only [hcL, reduceCtorEq] at hc) | (refine pw_cond _ rfl rfl (fun hc => ?_) (fun hc => ?_) <;> (try simp only [hcL, reduceCtorEq] at hc) <;> try (exfalso; omega)) | simp (maxSteps := 1000000) (disch := omega) only [go_sem, simprocAttr, hp, cI] | apply And.intro | omega | decide +kernel
     refine pw_loopI (κ := Nat) (fun (i : Nat) => i ≤ m.length ∧ ∀ (j : Nat) y, j < i → p[j]? = some y → badC y = false) (fun (i : Nat) => [(0, .d (listsD m)), (3, .int k), (4, .int i)]) (fun (i : Nat) => []) (fun (i : Nat) => m.length - i) 0 ?_ ?_ ?_
     ·exact ⟨Nat.zero_le _, fun j y hj => by omega⟩
     ·exact eL [] _ _ (by refine ⟨?_, ?_⟩ <;> (repeat' first | exact List.forall_mem_nil _ | refine List.forall_mem_cons.2 ⟨(by first | rfl | (simp (disch := omega) only [go_sem, simprocAttr, inL]; first | done | omega | (congr 1; done))), ?_⟩); done)
     ·rintro i ⟨hi, hinv2⟩
      rcases Nat.lt_or_ge i m.length with hli | hgi
      ·obtain ⟨x, hx⟩ := get_some (l := p) (k := i) (by omega)
       by_cases d1 : x < 0
       ·repeat' first | refine pw_seq ?_ | refine pw_skip ?_ | refine pw_ret ?_ | refine pw_exit ?_ | refine pw_block ?_ | refine pw_region (fun _ => false) hmix ?_ | (refine wpG_split rfl rfl (fun hc => ?_) (fun hc => ?_) <;> try simp only [hcL, reduceCtorEq] at hc) | (refine pw_cond _ rfl rfl (fun hc => ?_) (fun hc => ?_) <;> (try simp only [hcL, reduceCtorEq] at hc) <;> try (exfalso; omega)) | simp (maxSteps := 1000000) (disch := omega) only [go_sem, simprocAttr, hp, hx, d1] | apply And.intro | omega | decide +kernel
        refine bool_some ?_
        rw [okM, any_at hp (by rw [badRow, any_at hx (by rw [badC, decide_eq_true d1]; rfl), Bool.or_true])]; simp
       ·by_cases d2 : 1000000 < x
        ·repeat' first | refine pw_seq ?_ | refine pw_skip ?_ | refine pw_ret ?_ | refine pw_exit ?_ | refine pw_block ?_ | refine pw_region (fun _ => false) hmix ?_ | (refine wpG_split rfl rfl (fun hc => ?_) (fun hc => ?_) <;> try simp only [hcL, reduceCtorEq] at hc) | (refine pw_cond _ rfl rfl (fun hc => ?_) (fun hc => ?_) <;> (try simp only [hcL, reduceCtorEq] at hc) <;> try (exfalso; omega)) | simp (maxSteps := 1000000) (disch := omega) only [go_sem, simprocAttr, hp, hx, d1, d2] | apply And.intro | omega | decide +kernel
         refine bool_some ?_
         rw [okM, any_at hp (by rw [badRow, any_at hx (by rw [badC, decide_eq_true d2, Bool.or_true]), Bool.or_true])]; simp
        ·repeat' first | refine pw_seq ?_ | refine pw_skip ?_ | refine pw_ret ?_ | refine pw_exit ?_ | refine pw_block ?_ | refine pw_region (fun _ => false) hmix ?_ | (refine wpG_split rfl rfl (fun hc => ?_) (fun hc => ?_) <;> try simp only [hcL, reduceCtorEq] at hc) | (refine pw_cond _ rfl rfl (fun hc => ?_) (fun hc => ?_) <;> (try simp only [hcL, reduceCtorEq] at hc) <;> try (exfalso; omega)) | simp (maxSteps := 1000000) (disch := omega) only [go_sem, simprocAttr, hp, hx, d1, d2] | apply And.intro | omega | decide +kernel
         refine ⟨i + 1, ?_, eL [] _ _ (by refine ⟨?_, ?_⟩ <;> (repeat' first | exact List.forall_mem_nil _ | refine List.forall_mem_cons.2 ⟨(by first | rfl | (simp (disch := omega) only [go_sem, simprocAttr, inL]; first | done | omega | (congr 1; done))), ?_⟩); done), ?_⟩
         ·exact ⟨by omega, upto_succ hinv2 hx (by rw [badC, decide_eq_false d1, decide_eq_false d2]; rfl)⟩
         ·omega
      ·repeat' first | refine pw_seq ?_ | refine pw_skip ?_ | refine pw_ret ?_ | refine pw_exit ?_ | refine pw_block ?_ | refine pw_region (fun _ => false) hmix ?_ | (refine wpG_split rfl rfl (fun hc => ?_) (fun hc => ?_) <;> try simp only [hcL, reduceCtorEq] at hc) | (refine pw_cond _ rfl rfl (fun hc => ?_) (fun hc => ?_) <;> (try simp only [hcL, reduceCtorEq] at hc) <;> try (exfalso; omega)) | simp (maxSteps := 1000000) (disch := omega) only [go_sem, simprocAttr] | apply And.intro | omega | decide +kernel
       refine ⟨k + 1, ?_, eL [] _ _ (by refine ⟨?_, ?_⟩ <;> (repeat' first | exact List.forall_mem_nil _ | refine List.forall_mem_cons.2 ⟨(by first | rfl | (simp (disch := omega) only [go_sem, simprocAttr, inL]; first | done | omega | (congr 1; done))), ?_⟩); done), ?_⟩
       ·exact ⟨by omega, upto_succ hinv hp (by rw [badRow, decide_eq_false (by omega), any_no fun j y hj => hinv2 j y (by omega)]; rfl)⟩
       ·omega
    ·have cI : ¬ (p.length : Int) = m.length := by omega
     repeat' first | refine pw_seq ?_ | refine pw_skip ?_ | refine pw_ret ?_ | refine pw_exit ?_ | refine pw_block ?_ | refine pw_region (fun _ => false) hmix ?_ | (refine wpG_split rfl rfl (fun hc => ?_) (fun hc => ?_) <;> try simp only [hcL, reduceCtorEq] at hc) | (refine pw_cond _ rfl rfl (fun hc => ?_) (fun hc => ?_) <;> (try simp only [hcL, reduceCtorEq] at hc) <;> try (exfalso; omega)) | simp (maxSteps := 1000000) (disch := omega) only [go_sem, simprocAttr, hp, cI] | apply And.intro | omega | decide +kernel
     refine bool_some ?_
     rw [okM, any_at hp (by rw [badRow, decide_eq_true c, Bool.true_or])]; simp
   ·repeat' first | refine pw_seq ?_ | refine pw_skip ?_ | refine pw_ret ?_ | refine pw_exit ?_ | refine pw_block ?_ | refine pw_region (fun _ => false) hmix ?_ | (refine wpG_split rfl rfl (fun hc => ?_) (fun hc => ?_) <;> try simp only [hcL, reduceCtorEq] at hc) | (refine pw_cond _ rfl rfl (fun hc => ?_) (fun hc => ?_) <;> (try simp only [hcL, reduceCtorEq] at hc) <;> try (exfalso; omega)) | simp (maxSteps := 1000000) (disch := omega) only [go_sem, simprocAttr] | apply And.intro | omega | decide +kernel
    refine bool_some ?_
    rw [okM, any_no fun j y hj => hinv j y (by omega), decide_eq_true (by omega)]; rfl
end Go.Proofs.YtldbcbclhpcofaaGreat
namespace Go.Proofs.YtldbcbclhpcofaaGreat
open Go Go.PS Go.Proofs
open Go.Bd (sm sumC Small low Part bestF foldB better)
set_option maxRecDepth 100000
attribute [local irreducible] wpRun wpG CallsTo CallsM

def lwF (m : List (List Int)) (k : Nat) : Int := sm (fun u => sm (fun v => min (cellAt m u v) (cellAt m v u)) u) k
theorem lw_low (m : List (List Int)) : low (cellAt m) m.length [] = lwF m m.length := by
 rw [low, lwF]
 refine Go.Bd.sm_congr _ fun u _ => Go.Bd.sm_congr _ fun v _ => ?_
 rw [if_pos ⟨List.not_mem_nil, List.not_mem_nil⟩, Int.min_comm]
theorem iteI_min (a b : Int) : (if b < a then b else a) = min a b := by omega
theorem lw_in {m : List (List Int)} (hs : Sq m) (h8 : m.length ≤ 8) {u : Nat} (hu : u < m.length) (k : Nat) (hk : k ≤ u) : 0 ≤ sm (fun v => min (cellAt m u v) (cellAt m v u)) k ∧ sm (fun v => min (cellAt m u v) (cellAt m v u)) k ≤ 1000000 * k :=
 Go.Bd.sm_bounds k fun v hv => by
  have h1 := hs.small u v hu (by omega)
  have h2 := hs.small v u (by omega) hu
  omega
theorem lw_bounds {m : List (List Int)} (hs : Sq m) (h8 : m.length ≤ 8) (k : Nat) (hk : k ≤ m.length) : 0 ≤ lwF m k ∧ lwF m k ≤ 8000000 * k :=
 Go.Bd.sm_bounds k fun u hu => by
  have := lw_in hs h8 (u := u) (by omega) u (Nat.le_refl _)
  omega
set_option maxHeartbeats 1000000 in
theorem Lower_spec (m : List (List Int)) (h : okM m = true) : CallsTo Tryz.prog 52 [listsD m] (.int (low (cellAt m) m.length [])) := by
 have hv := bValid_spec m
 rw [h] at hv
 obtain ⟨hs, h8⟩ := ok_sq h
 rw [lw_low]
 refine callsTo_of Tryz.func52 rfl (by decide +kernel) (Nat.le_of_ble_eq_true rfl) ?_
 intro hat B X w0
 repeat' first | refine pw_seq ?_ | refine pw_skip ?_ | refine pw_ret ?_ | refine pw_exit ?_ | refine pw_block ?_ | refine pw_region (fun _ => false) hmix ?_ | (refine rc (hv) rfl ?_ ?_; (· first | rfl | (simp (disch := omega) only [go_sem, simprocAttr]; done))) | (refine wpG_split rfl rfl (fun hc => ?_) (fun hc => ?_) <;> try simp only [hcL, reduceCtorEq] at hc) | (refine pw_cond _ rfl rfl (fun hc => ?_) (fun hc => ?_) <;> (try simp only [hcL, reduceCtorEq] at hc) <;> try (exfalso; omega)) | simp (maxSteps := 1000000) (disch := omega) only [go_sem, simprocAttr] | apply And.intro | omega | decide +kernel
 refine pw_loopI (κ := Nat) (fun (u : Nat) => u ≤ m.length) (fun (u : Nat) => [(0, .d (listsD m)), (3, .int (lwF m u)), (10, .int m.length), (11, .int u)]) (fun (u : Nat) => []) (fun (u : Nat) => m.length - u) 0 ?_ ?_ ?_
 ·exact Nat.zero_le _
 ·exact eL [] _ _ (by refine ⟨?_, ?_⟩ <;> (repeat' first | exact List.forall_mem_nil _ | refine List.forall_mem_cons.2 ⟨(by first | rfl | (simp (disch := omega) only [go_sem, simprocAttr, inL, lwF, sm]; first | done | omega | (congr 1; done))), ?_⟩); done)
 ·intro u hu
  have hb := lw_bounds hs h8 u hu
  rcases Nat.lt_or_ge u m.length with hlt | hge
  ·have e1 : lwF m (u + 1) = lwF m u + sm (fun v => min (cellAt m u v) (cellAt m v u)) u := rfl
   repeat' first | refine pw_seq ?_ | refine pw_skip ?_ | refine pw_ret ?_ | refine pw_exit ?_ | refine pw_block ?_ | refine pw_region (fun _ => false) hmix ?_ | (refine wpG_split rfl rfl (fun hc => ?_) (fun hc => ?_) <;> try simp only [hcL, reduceCtorEq] at hc) | (refine pw_cond _ rfl rfl (fun hc => ?_) (fun hc => ?_) <;> (try simp only [hcL, reduceCtorEq] at hc) <;> try (exfalso; omega)) | simp (maxSteps := 1000000) (disch := omega) only [go_sem, simprocAttr] | apply And.intro | omega | decide +kernel
   refine pw_loopI (κ := Nat) (fun (v : Nat) => v ≤ u) (fun (v : Nat) => [(0, .d (listsD m)), (3, .int (lwF m u + sm (fun v => min (cellAt m u v) (cellAt m v u)) v)), (4, .int u), (10, .int m.length), (11, .int u), (14, .int u), (15, .int v)]) (fun (v : Nat) => []) (fun (v : Nat) => u - v) 0 ?_ ?_ ?_
   ·exact Nat.zero_le _
   ·exact eL [] _ _ (by refine ⟨?_, ?_⟩ <;> (repeat' first | exact List.forall_mem_nil _ | refine List.forall_mem_cons.2 ⟨(by first | rfl | (simp (disch := omega) only [go_sem, simprocAttr, inL, sm, Int.add_zero]; first | done | omega | (congr 1; done))), ?_⟩); done)
   ·intro v hv
    have hb2 := lw_in hs h8 hlt v hv
    rcases Nat.lt_or_ge v u with hlv | hgv
    ·obtain ⟨p, hp, hpl, hpv, h1, h2⟩ := hs.get hlt (show v < m.length by omega)
     obtain ⟨q, hq, hql, hqv, h3, h4⟩ := hs.get (show v < m.length by omega) hlt
     have e2 : sm (fun v => min (cellAt m u v) (cellAt m v u)) (v + 1) = sm (fun v => min (cellAt m u v) (cellAt m v u)) v + min (cellAt m u v) (cellAt m v u) := rfl
     repeat' first | refine pw_seq ?_ | refine pw_skip ?_ | refine pw_ret ?_ | refine pw_exit ?_ | refine pw_block ?_ | refine pw_region (fun _ => false) hmix ?_ | (refine wpG_split rfl rfl (fun hc => ?_) (fun hc => ?_) <;> try simp only [hcL, reduceCtorEq] at hc) | (refine pw_cond _ rfl rfl (fun hc => ?_) (fun hc => ?_) <;> (try simp only [hcL, reduceCtorEq] at hc) <;> try (exfalso; omega)) | simp (maxSteps := 1000000) (disch := omega) only [go_sem, simprocAttr, hp, hq, hpv, hqv, iteI_min] | apply And.intro | omega | decide +kernel
     refine ⟨v + 1, ?_, eL [] _ _ (by refine ⟨?_, ?_⟩ <;> (repeat' first | exact List.forall_mem_nil _ | refine List.forall_mem_cons.2 ⟨(by first | rfl | (simp (disch := omega) only [go_sem, simprocAttr, inL, e2, Int.add_assoc]; first | done | omega | (congr 1; done))), ?_⟩); done), ?_⟩
     ·omega
     ·omega
    ·have : v = u := by omega
     subst this
     repeat' first | refine pw_seq ?_ | refine pw_skip ?_ | refine pw_ret ?_ | refine pw_exit ?_ | refine pw_block ?_ | refine pw_region (fun _ => false) hmix ?_ | (refine wpG_split rfl rfl (fun hc => ?_) (fun hc => ?_) <;> try simp only [hcL, reduceCtorEq] at hc) | (refine pw_cond _ rfl rfl (fun hc => ?_) (fun hc => ?_) <;> (try simp only [hcL, reduceCtorEq] at hc) <;> try (exfalso; omega)) | simp (maxSteps := 1000000) (disch := omega) only [go_sem, simprocAttr] | apply And.intro | omega | decide +kernel
     refine ⟨v + 1, ?_, eL [] _ _ (by refine ⟨?_, ?_⟩ <;> (repeat' first | exact List.forall_mem_nil _ | refine List.forall_mem_cons.2 ⟨(by first | rfl | (simp (disch := omega) only [go_sem, simprocAttr, inL, e1]; first | done | omega | (congr 1; done))), ?_⟩); done), ?_⟩
     ·omega
     ·omega
  ·have : u = m.length := by omega
   subst this
   repeat' first | refine pw_seq ?_ | refine pw_skip ?_ | refine pw_ret ?_ | refine pw_exit ?_ | refine pw_block ?_ | refine pw_region (fun _ => false) hmix ?_ | (refine wpG_split rfl rfl (fun hc => ?_) (fun hc => ?_) <;> try simp only [hcL, reduceCtorEq] at hc) | (refine pw_cond _ rfl rfl (fun hc => ?_) (fun hc => ?_) <;> (try simp only [hcL, reduceCtorEq] at hc) <;> try (exfalso; omega)) | simp (maxSteps := 1000000) (disch := omega) only [go_sem, simprocAttr] | apply And.intro | omega | decide +kernel
   exact int_some rfl
theorem drop_at {l : List Nat} {i u : Nat} (h : l[i]? = some u) : l.drop i = u :: l.drop (i + 1) := by
 obtain ⟨hl, he⟩ := List.getElem?_eq_some_iff.1 h
 rw [← he]; exact List.drop_eq_getElem_cons hl
set_option maxHeartbeats 1000000 in
theorem sum_spec (m : List (List Int)) (l : List Nat) (hs : Sq m) (h8 : m.length ≤ 8) (hl : ∀ v, v ∈ l → v < m.length) (hll : l.length ≤ 8) : CallsTo Tryz.prog 88 [listsD m, natsD l] (.int (sumC (cellAt m) l)) := by
 have hbd : ∀ i, 0 ≤ sumC (cellAt m) (l.drop i) ∧ sumC (cellAt m) (l.drop i) ≤ 64000000 := fun i => by
  have := Go.Bd.sumC_bounds hs.small (l.drop i) (fun v hv => hl v (List.mem_of_mem_drop hv)) (by rw [List.length_drop]; omega)
  rw [List.length_drop] at this
  omega
 have hb0 := hbd 0
 rw [List.drop_zero] at hb0
 refine callsTo_of Tryz.func88 rfl (by decide +kernel) (Nat.le_of_ble_eq_true rfl) ?_
 intro hat B X w0
 repeat' first | refine pw_seq ?_ | refine pw_skip ?_ | refine pw_ret ?_ | refine pw_exit ?_ | refine pw_block ?_ | refine pw_region (fun _ => false) hmix ?_ | (refine wpG_split rfl rfl (fun hc => ?_) (fun hc => ?_) <;> try simp only [hcL, reduceCtorEq] at hc) | (refine pw_cond _ rfl rfl (fun hc => ?_) (fun hc => ?_) <;> (try simp only [hcL, reduceCtorEq] at hc) <;> try (exfalso; omega)) | simp (maxSteps := 1000000) (disch := omega) only [go_sem, simprocAttr] | apply And.intro | omega | decide +kernel
 refine pw_loopI (κ := Nat) (fun (i : Nat) => i ≤ l.length) (fun (i : Nat) => [(0, .d (listsD m)), (1, .d (natsD l)), (5, .int (sumC (cellAt m) l - sumC (cellAt m) (l.drop i))), (6, .int i)]) (fun (i : Nat) => []) (fun (i : Nat) => l.length - i) 0 ?_ ?_ ?_
 ·exact Nat.zero_le _
 ·exact eL [] _ _ (by refine ⟨?_, ?_⟩ <;> (repeat' first | exact List.forall_mem_nil _ | refine List.forall_mem_cons.2 ⟨(by first | rfl | (simp (disch := omega) only [go_sem, simprocAttr, inL, List.drop_zero, Int.sub_self]; first | done | omega | (congr 1; done))), ?_⟩); done)
 ·intro i hi
  have b1 := hbd i
  rcases Nat.lt_or_ge i l.length with hlt | hge
  ·obtain ⟨u, hu⟩ := get_some hlt
   have hd := drop_at hu
   have hul := hl u (List.mem_of_getElem? hu)
   have b2 := hbd (i + 1)
   have e1 : sumC (cellAt m) (l.drop i) = ((l.drop (i + 1)).map (cellAt m u)).sum + sumC (cellAt m) (l.drop (i + 1)) := by rw [hd]; rfl
   have hdl : (l.drop (i + 1)).length = l.length - (i + 1) := List.length_drop ..
   have hsb : ∀ j, 0 ≤ (((l.drop (i + 1)).take j).map (cellAt m u)).sum ∧ (((l.drop (i + 1)).take j).map (cellAt m u)).sum ≤ 8000000 := fun j => by
    have := Go.Bd.sum_bounds (f := cellAt m u) (K := 1000000) ((l.drop (i + 1)).take j) fun v hv => hs.small u v hul (hl v (List.mem_of_mem_drop (List.mem_of_mem_take hv)))
    rw [List.length_take, hdl] at this
    omega
   generalize sumC (cellAt m) l = S at *
   generalize sumC (cellAt m) (l.drop i) = S1 at *
   repeat' first | refine pw_seq ?_ | refine pw_skip ?_ | refine pw_ret ?_ | refine pw_exit ?_ | refine pw_block ?_ | refine pw_region (fun _ => false) hmix ?_ | (refine wpG_split rfl rfl (fun hc => ?_) (fun hc => ?_) <;> try simp only [hcL, reduceCtorEq] at hc) | (refine pw_cond _ rfl rfl (fun hc => ?_) (fun hc => ?_) <;> (try simp only [hcL, reduceCtorEq] at hc) <;> try (exfalso; omega)) | simp (maxSteps := 1000000) (disch := omega) only [go_sem, simprocAttr] | apply And.intro | omega | decide +kernel
   refine pw_loopI (κ := Nat) (fun (j : Nat) => j ≤ l.length - (i + 1)) (fun (j : Nat) => [(0, .d (listsD m)), (1, .d (natsD l)), (5, .int (S - S1 + (((l.drop (i + 1)).take j).map (cellAt m u)).sum)), (6, .int i), (7, .int (i + 1 + j : Nat))]) (fun (j : Nat) => []) (fun (j : Nat) => l.length - j) 0 ?_ ?_ ?_
   ·exact Nat.zero_le _
   ·exact eL [] _ _ (by refine ⟨?_, ?_⟩ <;> (repeat' first | exact List.forall_mem_nil _ | refine List.forall_mem_cons.2 ⟨(by first | rfl | (simp (disch := omega) only [go_sem, simprocAttr, inL, List.take_zero, List.map_nil, List.sum_nil, Int.add_zero, Int.natCast_add, Int.natCast_one]; first | done | omega | (congr 1; done))), ?_⟩); done)
   ·intro j hj
    have hb2 := hsb j
    rcases Nat.lt_or_ge (i + 1 + j) l.length with hlj | hgj
    ·obtain ⟨v, hv⟩ := get_some hlj
     have hvl := hl v (List.mem_of_getElem? hv)
     obtain ⟨p, hp, hpl, hpv, h1, h2⟩ := hs.get hul hvl
     have e2 : (((l.drop (i + 1)).take (j + 1)).map (cellAt m u)).sum = (((l.drop (i + 1)).take j).map (cellAt m u)).sum + cellAt m u v := by
      rw [take_snoc (x := v) (by rw [List.getElem?_drop]; exact hv), List.map_append, List.sum_append]; simp
     repeat' first | refine pw_seq ?_ | refine pw_skip ?_ | refine pw_ret ?_ | refine pw_exit ?_ | refine pw_block ?_ | refine pw_region (fun _ => false) hmix ?_ | (refine wpG_split rfl rfl (fun hc => ?_) (fun hc => ?_) <;> try simp only [hcL, reduceCtorEq] at hc) | (refine pw_cond _ rfl rfl (fun hc => ?_) (fun hc => ?_) <;> (try simp only [hcL, reduceCtorEq] at hc) <;> try (exfalso; omega)) | simp (maxSteps := 1000000) (disch := omega) only [go_sem, simprocAttr, hu, hv, hp, hpv] | apply And.intro | omega | decide +kernel
     refine ⟨j + 1, ?_, eL [] _ _ (by refine ⟨?_, ?_⟩ <;> (repeat' first | exact List.forall_mem_nil _ | refine List.forall_mem_cons.2 ⟨(by first | rfl | (simp (disch := omega) only [go_sem, simprocAttr, inL, e2, Int.natCast_add, Int.natCast_one, Int.add_assoc]; first | done | omega | (congr 1; done))), ?_⟩); done), ?_⟩
     ·omega
     ·omega
    ·have : j = l.length - (i + 1) := by omega
     subst this
     have ht : (l.drop (i + 1)).take (l.length - (i + 1)) = l.drop (i + 1) := List.take_of_length_le (by omega)
     have e3 : S - S1 + (((l.drop (i + 1)).take (l.length - (i + 1))).map (cellAt m u)).sum = S - sumC (cellAt m) (l.drop (i + 1)) := by rw [ht]; omega
     repeat' first | refine pw_seq ?_ | refine pw_skip ?_ | refine pw_ret ?_ | refine pw_exit ?_ | refine pw_block ?_ | refine pw_region (fun _ => false) hmix ?_ | (refine wpG_split rfl rfl (fun hc => ?_) (fun hc => ?_) <;> try simp only [hcL, reduceCtorEq] at hc) | (refine pw_cond _ rfl rfl (fun hc => ?_) (fun hc => ?_) <;> (try simp only [hcL, reduceCtorEq] at hc) <;> try (exfalso; omega)) | simp (maxSteps := 1000000) (disch := omega) only [go_sem, simprocAttr] | apply And.intro | omega | decide +kernel
     refine ⟨i + 1, ?_, eL [] _ _ (by refine ⟨?_, ?_⟩ <;> (repeat' first | exact List.forall_mem_nil _ | refine List.forall_mem_cons.2 ⟨(by first | rfl | (simp (disch := omega) only [go_sem, simprocAttr, inL, e3]; first | done | omega | (congr 1; done))), ?_⟩); done), ?_⟩
     ·omega
     ·omega
  ·have : i = l.length := by omega
   subst this
   have : sumC (cellAt m) (l.drop l.length) = 0 := by rw [List.drop_length]; rfl
   repeat' first | refine pw_seq ?_ | refine pw_skip ?_ | refine pw_ret ?_ | refine pw_exit ?_ | refine pw_block ?_ | refine pw_region (fun _ => false) hmix ?_ | (refine wpG_split rfl rfl (fun hc => ?_) (fun hc => ?_) <;> try simp only [hcL, reduceCtorEq] at hc) | (refine pw_cond _ rfl rfl (fun hc => ?_) (fun hc => ?_) <;> (try simp only [hcL, reduceCtorEq] at hc) <;> try (exfalso; omega)) | simp (maxSteps := 1000000) (disch := omega) only [go_sem, simprocAttr] | apply And.intro | omega | decide +kernel
   exact int_some (by omega)
end Go.Proofs.YtldbcbclhpcofaaGreat
namespace Go.Proofs.YtldbcbclhpcofaaGreat
open Go Go.PS Go.Proofs
open Go.Bd (sm sumC Small low Part bestF foldB better)
set_option maxRecDepth 100000
attribute [local irreducible] wpRun wpG CallsTo CallsM

def outL : Option (List Nat × Int) → List Nat
 | none => []
 | some s => s.1
def leastL : Option (List Nat × Int) → Int
 | none => -1
 | some s => s.2
set_option maxHeartbeats 4000000 in
theorem best_rec (m : List (List Int)) (hs : Sq m) (h8 : m.length ≤ 8) : ∀ (f : Nat) (l : List Nat), Part m.length f l → ∀ (b : List Nat) (k : Int), bestF (cellAt m) m.length f l = some (b, k) →
  CallsM Tryz.prog 58 [.d (listsD m), .ref 1000 1 0 l.length l.length] [(1000, .row 1 (l.map natD)), (2000, .dead)] (.tup [.ref 2000 1 0 b.length b.length, .int k]) [(1000, .gone), (2000, .row 1 (b.map natD))] := by
 intro f
 induction f with
 | zero =>
  intro l hp b k hb
  have hll := hp.len
  rw [bestF] at hb
  cases hb
  have h1 := sum_spec m l hs h8 hp.lt (by omega)
  refine callsM_of Tryz.func58 rfl (by decide +kernel) (Nat.le_of_ble_eq_true rfl) rfl (nodup_of rfl) rfl rfl rfl ?_
  intro B X w0
  refine pw_post ?_
  have hlI : (l.length : Int) = m.length := by omega
  repeat' first | refine pw_seq ?_ | refine pw_skip ?_ | refine pw_ret ?_ | refine pw_exit ?_ | refine pw_block ?_ | refine pw_region (fun _ => false) hmix ?_ | (refine rc (h1) rfl ?_ ?_; (· first | rfl | (simp (disch := omega) only [go_sem, simprocAttr, hlI, take_map_len]; done))) | (refine wpG_split rfl rfl (fun hc => ?_) (fun hc => ?_) <;> try simp only [hcL, reduceCtorEq] at hc) | (refine pw_cond _ rfl rfl (fun hc => ?_) (fun hc => ?_) <;> (try simp only [hcL, reduceCtorEq] at hc) <;> try (exfalso; omega)) | simp (maxSteps := 1000000) (disch := omega) only [go_sem, simprocAttr, hlI, take_map_len] | apply And.intro | omega | decide +kernel
  refine ⟨_, ent_move 1000 2000 rfl (by decide) (by decide), ?_⟩
  exact ⟨⟨_, rfl, by simp [ResAllM, ResIsM, mvG, upd, PV.ren, hlI]; done⟩, List.forall_mem_cons.2 ⟨rfl, List.forall_mem_cons.2 ⟨by simp [mvG, upd, obOf, Ob.ren, PV.ren], List.forall_mem_nil _⟩⟩⟩
 | succ f IH =>
  intro l hp b k hb
  have hll := hp.len
  rw [Go.Bd.best_foldB] at hb
  refine callsM_of Tryz.func58 rfl (by decide +kernel) (Nat.le_of_ble_eq_true rfl) rfl (nodup_of rfl) rfl rfl rfl ?_
  intro B X w0
  refine pw_post ?_
  repeat' first | refine pw_seq ?_ | refine pw_skip ?_ | refine pw_ret ?_ | refine pw_exit ?_ | refine pw_block ?_ | refine pw_region (fun _ => false) hmix ?_ | (refine wpG_split rfl rfl (fun hc => ?_) (fun hc => ?_) <;> try simp only [hcL, reduceCtorEq] at hc) | (refine pw_cond _ rfl rfl (fun hc => ?_) (fun hc => ?_) <;> (try simp only [hcL, reduceCtorEq] at hc) <;> try (exfalso; omega)) | simp (maxSteps := 1000000) (disch := omega) only [go_sem, simprocAttr] | apply And.intro | omega | decide +kernel
  refine pw_ent _ (ent_nil 6 902 1 rfl rfl) ?_
  refine pw_loopI (κ := Nat) (fun (v : Nat) => v ≤ m.length) (fun (v : Nat) => [(0, .d (listsD m)), (1, .ref 1000 1 0 l.length l.length), (6, .ref 902 1 0 (outL (foldB (cellAt m) m.length f l v)).length (outL (foldB (cellAt m) m.length f l v)).length), (7, .int (leastL (foldB (cellAt m) m.length f l v))), (8, .int v)]) (fun (v : Nat) => [(902, .row 1 ((outL (foldB (cellAt m) m.length f l v)).map natD)), (1000, .row 1 (l.map natD))]) (fun (v : Nat) => m.length - v) 0 ?_ ?_ ?_
  ·exact Nat.zero_le _
  ·exact eL [] _ _ (by refine ⟨?_, ?_⟩ <;> (repeat' first | exact List.forall_mem_nil _ | refine List.forall_mem_cons.2 ⟨(by first | rfl | (simp (disch := omega) only [go_sem, simprocAttr, inL, Go.Bd.foldB_zero, outL, leastL, List.length_nil, List.map_nil]; first | done | omega | (congr 1; done))), ?_⟩); done)
  ·intro v hv
   rcases Nat.lt_or_ge v m.length with hlt | hge
   ·have hin := inN_spec l v
    by_cases hm : v ∈ l
    ·rw [decide_eq_true hm] at hin
     have e1 := Go.Bd.foldB_in (cellAt m) m.length (f := f) hm
     repeat' first | refine pw_seq ?_ | refine pw_skip ?_ | refine pw_ret ?_ | refine pw_exit ?_ | refine pw_block ?_ | refine pw_region (fun _ => false) hmix ?_ | (refine rc (hin) rfl ?_ ?_; (· first | rfl | (simp (disch := omega) only [go_sem, simprocAttr, take_map_len]; done))) | (refine wpG_split rfl rfl (fun hc => ?_) (fun hc => ?_) <;> try simp only [hcL, reduceCtorEq] at hc) | (refine pw_cond _ rfl rfl (fun hc => ?_) (fun hc => ?_) <;> (try simp only [hcL, reduceCtorEq] at hc) <;> try (exfalso; omega)) | simp (maxSteps := 1000000) (disch := omega) only [go_sem, simprocAttr, take_map_len] | apply And.intro | omega | decide +kernel
     refine ⟨v + 1, ?_, eL [] _ _ (by refine ⟨?_, ?_⟩ <;> (repeat' first | exact List.forall_mem_nil _ | refine List.forall_mem_cons.2 ⟨(by first | rfl | (simp (disch := omega) only [go_sem, simprocAttr, inL, e1]; first | done | omega | (congr 1; done))), ?_⟩); done), ?_⟩
     ·omega
     ·omega
    ·rw [decide_eq_false hm] at hin
     have hp' := hp.snoc hlt hm
     obtain ⟨⟨b', k'⟩, hb'⟩ := Go.Bd.best_some (c := cellAt m) f (l ++ [v]) hp'
     have ih := IH (l ++ [v]) hp' b' k' hb'
     obtain ⟨g1, g2, g3, _⟩ := Go.Bd.best_bounds hs.small h8 hp' hb'
     dsimp only at g1 g2 g3
     simp only [List.length_append, List.length_cons, List.length_nil, List.map_append, List.map_cons, List.map_nil, Nat.zero_add] at ih
     have e1 := Go.Bd.foldB_out (cellAt m) m.length (f := f) hm
     rw [hb'] at e1
     have hfb := Go.Bd.foldB_bounds hs.small h8 hp v hv
     rcases hst : foldB (cellAt m) m.length f l v with _ | ⟨b0, k0⟩ <;> rw [hst] at e1 hfb
     ·have e2 : foldB (cellAt m) m.length f l (v + 1) = some (b', k') := e1
      repeat' first | refine pw_seq ?_ | refine pw_skip ?_ | refine pw_ret ?_ | refine pw_exit ?_ | refine pw_block ?_ | refine pw_region (Nat.beq 31) hmix ?_ | (refine rc (hin) rfl ?_ ?_; (· first | rfl | (simp (disch := omega) only [go_sem, simprocAttr, take_map_len, outL, leastL, roomy]; done))) | refine rcM [(1000, 36), (2000, 903)] (ih) rfl ?_ | (refine wpG_split rfl rfl (fun hc => ?_) (fun hc => ?_) <;> try simp only [hcL, reduceCtorEq] at hc) | (refine pw_cond _ rfl rfl (fun hc => ?_) (fun hc => ?_) <;> (try simp only [hcL, reduceCtorEq] at hc) <;> try (exfalso; omega)) | simp (maxSteps := 1000000) (disch := omega) only [go_sem, simprocAttr, take_map_len, outL, leastL, roomy] | (first | exact nat_cells l | exact nat_one v) | apply And.intro | omega | decide +kernel
      refine ⟨v + 1, ?_, eL [(902, 903)] _ _ (by refine ⟨?_, ?_⟩ <;> (repeat' first | exact List.forall_mem_nil _ | refine List.forall_mem_cons.2 ⟨(by first | rfl | (simp (disch := omega) only [go_sem, simprocAttr, inL, e2, outL, leastL]; first | done | omega | (congr 1; done))), ?_⟩); done), ?_⟩
      ·omega
      ·omega
     ·obtain ⟨g4, g5, g6⟩ := hfb _ rfl
      dsimp only at g4 g5 g6
      by_cases hk : k' < k0
      ·have e2 : foldB (cellAt m) m.length f l (v + 1) = some (b', k') := by rw [e1, better, if_pos hk]
       repeat' first | refine pw_seq ?_ | refine pw_skip ?_ | refine pw_ret ?_ | refine pw_exit ?_ | refine pw_block ?_ | refine pw_region (Nat.beq 31) hmix ?_ | (refine rc (hin) rfl ?_ ?_; (· first | rfl | (simp (disch := omega) only [go_sem, simprocAttr, take_map_len, outL, leastL, roomy, hk]; done))) | refine rcM [(1000, 36), (2000, 903)] (ih) rfl ?_ | (refine wpG_split rfl rfl (fun hc => ?_) (fun hc => ?_) <;> try simp only [hcL, reduceCtorEq] at hc) | (refine pw_cond _ rfl rfl (fun hc => ?_) (fun hc => ?_) <;> (try simp only [hcL, reduceCtorEq] at hc) <;> try (exfalso; omega)) | simp (maxSteps := 1000000) (disch := omega) only [go_sem, simprocAttr, take_map_len, outL, leastL, roomy, hk] | (first | exact nat_cells l | exact nat_one v) | apply And.intro | omega | decide +kernel
       refine ⟨v + 1, ?_, eL [(902, 903)] _ _ (by refine ⟨?_, ?_⟩ <;> (repeat' first | exact List.forall_mem_nil _ | refine List.forall_mem_cons.2 ⟨(by first | rfl | (simp (disch := omega) only [go_sem, simprocAttr, inL, e2, outL, leastL]; first | done | omega | (congr 1; done))), ?_⟩); done), ?_⟩
       ·omega
       ·omega
      ·have e2 : foldB (cellAt m) m.length f l (v + 1) = some (b0, k0) := by rw [e1, better, if_neg hk]
       repeat' first | refine pw_seq ?_ | refine pw_skip ?_ | refine pw_ret ?_ | refine pw_exit ?_ | refine pw_block ?_ | refine pw_region (Nat.beq 31) hmix ?_ | (refine rc (hin) rfl ?_ ?_; (· first | rfl | (simp (disch := omega) only [go_sem, simprocAttr, take_map_len, outL, leastL, roomy, hk]; done))) | refine rcM [(1000, 36), (2000, 903)] (ih) rfl ?_ | (refine wpG_split rfl rfl (fun hc => ?_) (fun hc => ?_) <;> try simp only [hcL, reduceCtorEq] at hc) | (refine pw_cond _ rfl rfl (fun hc => ?_) (fun hc => ?_) <;> (try simp only [hcL, reduceCtorEq] at hc) <;> try (exfalso; omega)) | simp (maxSteps := 1000000) (disch := omega) only [go_sem, simprocAttr, take_map_len, outL, leastL, roomy, hk] | (first | exact nat_cells l | exact nat_one v) | apply And.intro | omega | decide +kernel
       refine ⟨v + 1, ?_, eL [] _ _ (by refine ⟨?_, ?_⟩ <;> (repeat' first | exact List.forall_mem_nil _ | refine List.forall_mem_cons.2 ⟨(by first | rfl | (simp (disch := omega) only [go_sem, simprocAttr, inL, e2, outL, leastL]; first | done | omega | (congr 1; done))), ?_⟩); done), ?_⟩
       ·omega
       ·omega
   ·have : v = m.length := by omega
    subst this
    rw [hb]
    repeat' first | refine pw_seq ?_ | refine pw_skip ?_ | refine pw_ret ?_ | refine pw_exit ?_ | refine pw_block ?_ | refine pw_region (fun _ => false) hmix ?_ | (refine wpG_split rfl rfl (fun hc => ?_) (fun hc => ?_) <;> try simp only [hcL, reduceCtorEq] at hc) | (refine pw_cond _ rfl rfl (fun hc => ?_) (fun hc => ?_) <;> (try simp only [hcL, reduceCtorEq] at hc) <;> try (exfalso; omega)) | simp (maxSteps := 1000000) (disch := omega) only [go_sem, simprocAttr, outL, leastL] | apply And.intro | omega | decide +kernel
    refine ⟨_, Ent.trans (ent_gone 1000) (entL_iff.1 (eL [(2000, 902)] [(4, .ref 2000 1 0 b.length b.length), (5, .int k)] [(1000, .gone), (2000, .row 1 (b.map natD))] (by constructor <;> (repeat' first | exact List.forall_mem_nil _ | refine List.forall_mem_cons.2 ⟨rfl, ?_⟩)))), ?_⟩
    exact ⟨⟨_, rfl, rfl, rfl, trivial⟩, List.forall_mem_cons.2 ⟨rfl, List.forall_mem_cons.2 ⟨rfl, List.forall_mem_nil _⟩⟩⟩
set_option maxHeartbeats 4000000 in
theorem best_data (m : List (List Int)) (hs : Sq m) (h8 : m.length ≤ 8) (f : Nat) (l : List Nat) (hp : Part m.length (f + 1) l) (b : List Nat) (k : Int) (hb : foldB (cellAt m) m.length f l m.length = some (b, k)) :
  CallsTo Tryz.prog 58 [listsD m, natsD l] (.tup [natsD b, .int k]) := by
 have hll := hp.len
 refine callsTo_of Tryz.func58 rfl (by decide +kernel) (Nat.le_of_ble_eq_true rfl) ?_
 intro hat B X w0
 repeat' first | refine pw_seq ?_ | refine pw_skip ?_ | refine pw_ret ?_ | refine pw_exit ?_ | refine pw_block ?_ | refine pw_region (fun _ => false) hmix ?_ | (refine wpG_split rfl rfl (fun hc => ?_) (fun hc => ?_) <;> try simp only [hcL, reduceCtorEq] at hc) | (refine pw_cond _ rfl rfl (fun hc => ?_) (fun hc => ?_) <;> (try simp only [hcL, reduceCtorEq] at hc) <;> try (exfalso; omega)) | simp (maxSteps := 1000000) (disch := omega) only [go_sem, simprocAttr] | apply And.intro | omega | decide +kernel
 refine pw_ent _ (ent_nil 6 902 1 rfl rfl) ?_
 refine pw_loopI (κ := Nat) (fun (v : Nat) => v ≤ m.length) (fun (v : Nat) => [(0, .d (listsD m)), (1, .d (natsD l)), (6, .ref 902 1 0 (outL (foldB (cellAt m) m.length f l v)).length (outL (foldB (cellAt m) m.length f l v)).length), (7, .int (leastL (foldB (cellAt m) m.length f l v))), (8, .int v)]) (fun (v : Nat) => [(902, .row 1 ((outL (foldB (cellAt m) m.length f l v)).map natD))]) (fun (v : Nat) => m.length - v) 0 ?_ ?_ ?_
 ·exact Nat.zero_le _
 ·exact eL [] _ _ (by refine ⟨?_, ?_⟩ <;> (repeat' first | exact List.forall_mem_nil _ | refine List.forall_mem_cons.2 ⟨(by first | rfl | (simp (disch := omega) only [go_sem, simprocAttr, inL, Go.Bd.foldB_zero, outL, leastL, List.length_nil, List.map_nil]; first | done | omega | (congr 1; done))), ?_⟩); done)
 ·intro v hv
  rcases Nat.lt_or_ge v m.length with hlt | hge
  ·have hin := inN_spec l v
   by_cases hm : v ∈ l
   ·rw [decide_eq_true hm] at hin
    have e1 := Go.Bd.foldB_in (cellAt m) m.length (f := f) hm
    repeat' first | refine pw_seq ?_ | refine pw_skip ?_ | refine pw_ret ?_ | refine pw_exit ?_ | refine pw_block ?_ | refine pw_region (fun _ => false) hmix ?_ | (refine rc (hin) rfl ?_ ?_; (· first | rfl | (simp (disch := omega) only [go_sem, simprocAttr, take_map_len]; done))) | (refine wpG_split rfl rfl (fun hc => ?_) (fun hc => ?_) <;> try simp only [hcL, reduceCtorEq] at hc) | (refine pw_cond _ rfl rfl (fun hc => ?_) (fun hc => ?_) <;> (try simp only [hcL, reduceCtorEq] at hc) <;> try (exfalso; omega)) | simp (maxSteps := 1000000) (disch := omega) only [go_sem, simprocAttr, take_map_len] | apply And.intro | omega | decide +kernel
    refine ⟨v + 1, ?_, eL [] _ _ (by refine ⟨?_, ?_⟩ <;> (repeat' first | exact List.forall_mem_nil _ | refine List.forall_mem_cons.2 ⟨(by first | rfl | (simp (disch := omega) only [go_sem, simprocAttr, inL, e1]; first | done | omega | (congr 1; done))), ?_⟩); done), ?_⟩
    ·omega
    ·omega
   ·rw [decide_eq_false hm] at hin
    have hp' := hp.snoc hlt hm
    obtain ⟨⟨b', k'⟩, hb'⟩ := Go.Bd.best_some (c := cellAt m) f (l ++ [v]) hp'
    have ih := best_rec m hs h8 f (l ++ [v]) hp' b' k' hb'
    obtain ⟨g1, g2, g3, _⟩ := Go.Bd.best_bounds hs.small h8 hp' hb'
    dsimp only at g1 g2 g3
    simp only [List.length_append, List.length_cons, List.length_nil, List.map_append, List.map_cons, List.map_nil, Nat.zero_add] at ih
    have e1 := Go.Bd.foldB_out (cellAt m) m.length (f := f) hm
    rw [hb'] at e1
    have hfb := Go.Bd.foldB_bounds hs.small h8 hp v hv
    rcases hst : foldB (cellAt m) m.length f l v with _ | ⟨b0, k0⟩ <;> rw [hst] at e1 hfb
    ·have e2 : foldB (cellAt m) m.length f l (v + 1) = some (b', k') := e1
     repeat' first | refine pw_seq ?_ | refine pw_skip ?_ | refine pw_ret ?_ | refine pw_exit ?_ | refine pw_block ?_ | refine pw_region (Nat.beq 31) hmix ?_ | (refine rc (hin) rfl ?_ ?_; (· first | rfl | (simp (disch := omega) only [go_sem, simprocAttr, take_map_len, outL, leastL, roomy]; done))) | refine rcM [(1000, 36), (2000, 903)] (ih) rfl ?_ | (refine wpG_split rfl rfl (fun hc => ?_) (fun hc => ?_) <;> try simp only [hcL, reduceCtorEq] at hc) | (refine pw_cond _ rfl rfl (fun hc => ?_) (fun hc => ?_) <;> (try simp only [hcL, reduceCtorEq] at hc) <;> try (exfalso; omega)) | simp (maxSteps := 1000000) (disch := omega) only [go_sem, simprocAttr, take_map_len, outL, leastL, roomy] | (first | exact nat_cells l | exact nat_one v) | apply And.intro | omega | decide +kernel
     refine ⟨v + 1, ?_, eL [(902, 903)] _ _ (by refine ⟨?_, ?_⟩ <;> (repeat' first | exact List.forall_mem_nil _ | refine List.forall_mem_cons.2 ⟨(by first | rfl | (simp (disch := omega) only [go_sem, simprocAttr, inL, e2, outL, leastL]; first | done | omega | (congr 1; done))), ?_⟩); done), ?_⟩
     ·omega
     ·omega
    ·obtain ⟨g4, g5, g6⟩ := hfb _ rfl
     dsimp only at g4 g5 g6
     by_cases hk : k' < k0
     ·have e2 : foldB (cellAt m) m.length f l (v + 1) = some (b', k') := by rw [e1, better, if_pos hk]
      repeat' first | refine pw_seq ?_ | refine pw_skip ?_ | refine pw_ret ?_ | refine pw_exit ?_ | refine pw_block ?_ | refine pw_region (Nat.beq 31) hmix ?_ | (refine rc (hin) rfl ?_ ?_; (· first | rfl | (simp (disch := omega) only [go_sem, simprocAttr, take_map_len, outL, leastL, roomy, hk]; done))) | refine rcM [(1000, 36), (2000, 903)] (ih) rfl ?_ | (refine wpG_split rfl rfl (fun hc => ?_) (fun hc => ?_) <;> try simp only [hcL, reduceCtorEq] at hc) | (refine pw_cond _ rfl rfl (fun hc => ?_) (fun hc => ?_) <;> (try simp only [hcL, reduceCtorEq] at hc) <;> try (exfalso; omega)) | simp (maxSteps := 1000000) (disch := omega) only [go_sem, simprocAttr, take_map_len, outL, leastL, roomy, hk] | (first | exact nat_cells l | exact nat_one v) | apply And.intro | omega | decide +kernel
      refine ⟨v + 1, ?_, eL [(902, 903)] _ _ (by refine ⟨?_, ?_⟩ <;> (repeat' first | exact List.forall_mem_nil _ | refine List.forall_mem_cons.2 ⟨(by first | rfl | (simp (disch := omega) only [go_sem, simprocAttr, inL, e2, outL, leastL]; first | done | omega | (congr 1; done))), ?_⟩); done), ?_⟩
      ·omega
      ·omega
     ·have e2 : foldB (cellAt m) m.length f l (v + 1) = some (b0, k0) := by rw [e1, better, if_neg hk]
      repeat' first | refine pw_seq ?_ | refine pw_skip ?_ | refine pw_ret ?_ | refine pw_exit ?_ | refine pw_block ?_ | refine pw_region (Nat.beq 31) hmix ?_ | (refine rc (hin) rfl ?_ ?_; (· first | rfl | (simp (disch := omega) only [go_sem, simprocAttr, take_map_len, outL, leastL, roomy, hk]; done))) | refine rcM [(1000, 36), (2000, 903)] (ih) rfl ?_ | (refine wpG_split rfl rfl (fun hc => ?_) (fun hc => ?_) <;> try simp only [hcL, reduceCtorEq] at hc) | (refine pw_cond _ rfl rfl (fun hc => ?_) (fun hc => ?_) <;> (try simp only [hcL, reduceCtorEq] at hc) <;> try (exfalso; omega)) | simp (maxSteps := 1000000) (disch := omega) only [go_sem, simprocAttr, take_map_len, outL, leastL, roomy, hk] | (first | exact nat_cells l | exact nat_one v) | apply And.intro | omega | decide +kernel
      refine ⟨v + 1, ?_, eL [] _ _ (by refine ⟨?_, ?_⟩ <;> (repeat' first | exact List.forall_mem_nil _ | refine List.forall_mem_cons.2 ⟨(by first | rfl | (simp (disch := omega) only [go_sem, simprocAttr, inL, e2, outL, leastL]; first | done | omega | (congr 1; done))), ?_⟩); done), ?_⟩
      ·omega
      ·omega
  ·have : v = m.length := by omega
   subst this
   rw [hb]
   repeat' first | refine pw_seq ?_ | refine pw_skip ?_ | refine pw_ret ?_ | refine pw_exit ?_ | refine pw_block ?_ | refine pw_region (fun _ => false) hmix ?_ | (refine wpG_split rfl rfl (fun hc => ?_) (fun hc => ?_) <;> try simp only [hcL, reduceCtorEq] at hc) | (refine pw_cond _ rfl rfl (fun hc => ?_) (fun hc => ?_) <;> (try simp only [hcL, reduceCtorEq] at hc) <;> try (exfalso; omega)) | simp (maxSteps := 1000000) (disch := omega) only [go_sem, simprocAttr, outL, leastL] | apply And.intro | omega | decide +kernel
   exact ⟨_, rfl, ret_ref (o := 902) rfl rfl (by simp) (take_map_len _ _), int_some rfl, trivial⟩
theorem best_full (m : List (List Int)) (l : List Nat) (hs : Sq m) (h8 : m.length ≤ 8) (hl : ∀ v, v ∈ l → v < m.length) (hll : l.length = m.length) : CallsTo Tryz.prog 58 [listsD m, natsD l] (.tup [natsD l, .int (sumC (cellAt m) l)]) := by
 have h1 := sum_spec m l hs h8 hl (by omega)
 refine callsTo_of Tryz.func58 rfl (by decide +kernel) (Nat.le_of_ble_eq_true rfl) ?_
 intro hat B X w0
 repeat' first | refine pw_seq ?_ | refine pw_skip ?_ | refine pw_ret ?_ | refine pw_exit ?_ | refine pw_block ?_ | refine pw_region (fun _ => false) hmix ?_ | (refine rc (h1) rfl ?_ ?_; (· first | rfl | (simp (disch := omega) only [go_sem, simprocAttr, hll]; done))) | (refine wpG_split rfl rfl (fun hc => ?_) (fun hc => ?_) <;> try simp only [hcL, reduceCtorEq] at hc) | (refine pw_cond _ rfl rfl (fun hc => ?_) (fun hc => ?_) <;> (try simp only [hcL, reduceCtorEq] at hc) <;> try (exfalso; omega)) | simp (maxSteps := 1000000) (disch := omega) only [go_sem, simprocAttr, hll] | apply And.intro | omega | decide +kernel
 exact ⟨_, rfl, sl_some rfl, int_some rfl, trivial⟩
theorem part_nil (n : Nat) : Part n n [] := ⟨List.nodup_nil, fun v hv => absurd hv List.not_mem_nil, by simp⟩
def bestAll (m : List (List Int)) : List Nat × Int := (bestF (cellAt m) m.length m.length []).getD ([], 0)
theorem bestAll_eq (m : List (List Int)) : bestF (cellAt m) m.length m.length [] = some (bestAll m) := by
 obtain ⟨s, hs⟩ := Go.Bd.best_some (c := cellAt m) m.length [] (part_nil _)
 rw [bestAll, hs]; rfl
theorem best_all (m : List (List Int)) (hs : Sq m) (h8 : m.length ≤ 8) : CallsTo Tryz.prog 58 [listsD m, .sl []] (.tup [natsD (bestAll m).1, .int (bestAll m).2]) := by
 have hb := bestAll_eq m
 have hp := part_nil m.length
 rcases hn : m.length with _ | f
 ·rw [hn, bestF] at hb
  have h0 := best_full m [] hs h8 (fun v hv => absurd hv List.not_mem_nil) (by rw [hn]; rfl)
  rw [Option.some.injEq] at hb
  rw [← hb]; exact h0
 ·rw [hn] at hb hp
  rw [Go.Bd.best_foldB] at hb
  rw [← hn] at hb
  exact best_data m hs h8 f [] (by rw [hn]; exact hp) _ _ hb
theorem rLeast_spec (m : List (List Int)) : CallsTo Tryz.prog 29 [listsD m] (if okM m then .tup [natsD (bestAll m).1, .int (bestAll m).2, .int 0] else .tup [.sl [], .int 0, .int 1]) := by
 have hv := rbValid_spec m
 rcases h : okM m with _ | _ <;> rw [h] at hv
 ·rw [if_neg (by decide)]
  refine callsTo_of Tryz.func29 rfl (by decide +kernel) (Nat.le_of_ble_eq_true rfl) ?_
  intro hat B X w0
  repeat' first | refine pw_seq ?_ | refine pw_skip ?_ | refine pw_ret ?_ | refine pw_exit ?_ | refine pw_block ?_ | refine pw_region (fun _ => false) hmix ?_ | (refine rc (hv) rfl ?_ ?_; (· first | rfl | (simp (disch := omega) only [go_sem, simprocAttr]; done))) | (refine wpG_split rfl rfl (fun hc => ?_) (fun hc => ?_) <;> try simp only [hcL, reduceCtorEq] at hc) | (refine pw_cond _ rfl rfl (fun hc => ?_) (fun hc => ?_) <;> (try simp only [hcL, reduceCtorEq] at hc) <;> try (exfalso; omega)) | simp (maxSteps := 1000000) (disch := omega) only [go_sem, simprocAttr] | apply And.intro | omega | decide +kernel
  exact ⟨_, rfl, sl_some rfl, int_some rfl, int_some rfl, trivial⟩
 ·rw [if_pos rfl]
  obtain ⟨hs, h8⟩ := ok_sq h
  have hb := best_all m hs h8
  refine callsTo_of Tryz.func29 rfl (by decide +kernel) (Nat.le_of_ble_eq_true rfl) ?_
  intro hat B X w0
  repeat' first | refine pw_seq ?_ | refine pw_skip ?_ | refine pw_ret ?_ | refine pw_exit ?_ | refine pw_block ?_ | refine pw_region (fun _ => false) hmix ?_ | (refine rc (hv) rfl ?_ ?_; (· first | rfl | (simp (disch := omega) only [go_sem, simprocAttr]; done))) | (refine rc (hb) rfl ?_ ?_; (· first | rfl | (simp (disch := omega) only [go_sem, simprocAttr]; done))) | (refine wpG_split rfl rfl (fun hc => ?_) (fun hc => ?_) <;> try simp only [hcL, reduceCtorEq] at hc) | (refine pw_cond _ rfl rfl (fun hc => ?_) (fun hc => ?_) <;> (try simp only [hcL, reduceCtorEq] at hc) <;> try (exfalso; omega)) | simp (maxSteps := 1000000) (disch := omega) only [go_sem, simprocAttr] | apply And.intro | omega | decide +kernel
  exact ⟨_, rfl, sl_some rfl, int_some rfl, int_some rfl, trivial⟩
end Go.Proofs.YtldbcbclhpcofaaGreat
namespace Go.Proofs.YtldbcbclhpcofaaGreat
open Go Go.PS Go.Proofs
open Go.Bd (sm sumC Small low Part bestF foldB better extF foldE more less shut)
set_option maxRecDepth 100000
attribute [local irreducible] wpRun wpG CallsTo CallsM

theorem cloneN_spec (l : List Nat) (hn : l.length ≤ 1000000) : CallsM Tryz.prog 62 [.ref 1000 1 0 l.length l.length] [(1000, .row 1 (l.map natD)), (2000, .dead)] (.ref 2000 1 0 l.length l.length) [(1000, .row 1 (l.map natD)), (2000, .row 1 (l.map natD))] := by
 rcases Decidable.em (l = []) with rfl | hl
 ·refine callsM_of Tryz.func62 rfl (by decide +kernel) (Nat.le_of_ble_eq_true rfl) rfl (nodup_of rfl) rfl rfl rfl ?_
  intro B X w0
  refine pw_post ?_
  repeat' first | refine pw_seq ?_ | refine pw_skip ?_ | refine pw_ret ?_ | refine pw_exit ?_ | refine pw_block ?_ | refine pw_region (fun _ => false) hmix ?_ | (refine wpG_split rfl rfl (fun hc => ?_) (fun hc => ?_) <;> try simp only [hcL, reduceCtorEq] at hc) | (refine pw_cond _ rfl rfl (fun hc => ?_) (fun hc => ?_) <;> (try simp only [hcL, reduceCtorEq] at hc) <;> try (exfalso; omega)) | simp (maxSteps := 1000000) (disch := omega) only [go_sem, simprocAttr] | apply And.intro | omega | decide +kernel
  refine pw_anyb 4 rfl ?_
  intro b
  cases b
  ·repeat' first | refine pw_seq ?_ | refine pw_skip ?_ | refine pw_ret ?_ | refine pw_exit ?_ | refine pw_block ?_ | refine pw_region (Nat.beq 5) hmix ?_ | (refine wpG_split rfl rfl (fun hc => ?_) (fun hc => ?_) <;> try simp only [hcL, reduceCtorEq] at hc) | (refine pw_cond _ rfl rfl (fun hc => ?_) (fun hc => ?_) <;> (try simp only [hcL, reduceCtorEq] at hc) <;> try (exfalso; omega)) | simp (maxSteps := 1000000) (disch := omega) only [go_sem, simprocAttr, roomy] | apply And.intro | omega | decide +kernel
   refine ⟨_, entL_iff.1 (eL [(2000, 7)] [(2, .ref 2000 1 0 0 0)] [(1000, .row 1 []), (2000, .row 1 [])] (by refine ⟨?_, ?_⟩ <;> (repeat' first | exact List.forall_mem_nil _ | refine List.forall_mem_cons.2 ⟨(by first | rfl | (simp (disch := omega) only [go_sem, simprocAttr, inL]; first | done | omega | (congr 1; done))), ?_⟩); done)), ?_⟩
   exact ⟨rfl, List.forall_mem_cons.2 ⟨rfl, List.forall_mem_cons.2 ⟨rfl, List.forall_mem_nil _⟩⟩⟩
  ·repeat' first | refine pw_seq ?_ | refine pw_skip ?_ | refine pw_ret ?_ | refine pw_exit ?_ | refine pw_block ?_ | refine pw_region (fun _ => false) hmix ?_ | (refine wpG_split rfl rfl (fun hc => ?_) (fun hc => ?_) <;> try simp only [hcL, reduceCtorEq] at hc) | (refine pw_cond _ rfl rfl (fun hc => ?_) (fun hc => ?_) <;> (try simp only [hcL, reduceCtorEq] at hc) <;> try (exfalso; omega)) | simp (maxSteps := 1000000) (disch := omega) only [go_sem, simprocAttr] | apply And.intro | omega | decide +kernel
   refine ⟨_, Ent.trans (ent_nil 2 7 1 rfl rfl) (entL_iff.1 (eL [(2000, 7)] [(2, .ref 2000 1 0 0 0)] [(1000, .row 1 []), (2000, .row 1 [])] (by constructor <;> (repeat' first | exact List.forall_mem_nil _ | refine List.forall_mem_cons.2 ⟨rfl, ?_⟩)))), ?_⟩
   exact ⟨rfl, List.forall_mem_cons.2 ⟨rfl, List.forall_mem_cons.2 ⟨rfl, List.forall_mem_nil _⟩⟩⟩
 ·have he : (l.map natD).isEmpty = false := by simpa using hl
  have hpos : 0 < l.length := List.length_pos_iff.2 hl
  have hne : l.length ≠ 0 := by omega
  refine callsM_of Tryz.func62 rfl (by decide +kernel) (Nat.le_of_ble_eq_true rfl) rfl (nodup_of rfl) rfl rfl rfl ?_
  intro B X w0
  refine pw_post ?_
  repeat' first | refine pw_seq ?_ | refine pw_skip ?_ | refine pw_ret ?_ | refine pw_exit ?_ | refine pw_block ?_ | refine pw_region (Nat.beq 5) hmix ?_ | (refine wpG_split rfl rfl (fun hc => ?_) (fun hc => ?_) <;> try simp only [hcL, reduceCtorEq] at hc) | (refine pw_cond _ rfl rfl (fun hc => ?_) (fun hc => ?_) <;> (try simp only [hcL, reduceCtorEq] at hc) <;> try (exfalso; omega)) | simp (maxSteps := 1000000) (disch := omega) only [go_sem, simprocAttr, he, roomy, take_map_len, hne] | exact nat_cells l | apply And.intro | omega | decide +kernel
  refine ⟨_, entL_iff.1 (eL [(2000, 7)] [(2, .ref 2000 1 0 l.length l.length)] [(1000, .row 1 (l.map natD)), (2000, .row 1 (l.map natD))] (by refine ⟨?_, ?_⟩ <;> (repeat' first | exact List.forall_mem_nil _ | refine List.forall_mem_cons.2 ⟨(by first | rfl | (simp (disch := omega) only [go_sem, simprocAttr, inL]; first | done | omega | (congr 1; done))), ?_⟩); done)), ?_⟩
  exact ⟨rfl, List.forall_mem_cons.2 ⟨rfl, List.forall_mem_cons.2 ⟨rfl, List.forall_mem_nil _⟩⟩⟩
def bPV : Option (List Nat × Int) → PV
 | none => .nilS
 | some s => .d (natsD s.1)
def lI : Option (List Nat × Int) → Int
 | none => 0
 | some s => s.2
theorem ext_len (c : Nat → Nat → Int) (n : Nat) : ∀ (f : Nat) (l : List Nat), Part n f l → ∀ (st : Option (List Nat × Int)) (cost rest : Int), (∀ s, st = some s → s.1.length = n) → ∀ s, extF c n f l cost rest st = some s → s.1.length = n
 | 0, l, hp, st, cost, rest, h, s, hs => by
  rw [extF] at hs
  split at hs
  ·exact h s hs
  ·cases hs; have := hp.len; dsimp only; omega
 | f + 1, l, hp, st, cost, rest, h, s, hs => by
  rw [Go.Bd.ext_foldE] at hs
  split at hs
  ·exact h s hs
  ·have key : ∀ k, k ≤ n → ∀ s, foldE c n f l cost rest st k = some s → s.1.length = n := by
    intro k
    induction k with
    | zero => intro _ s hs; exact h s hs
    | succ k ih =>
     intro hk s hs
     by_cases hm : k ∈ l
     ·rw [Go.Bd.foldE_in c n hm] at hs; exact ih (by omega) s hs
     ·rw [Go.Bd.foldE_out c n hm] at hs
      exact ext_len c n f (l ++ [k]) (hp.snoc (by omega) hm) _ _ _ (ih (by omega)) s hs
   exact key n (Nat.le_refl _) s hs
theorem foldE_len {c : Nat → Nat → Int} {n f : Nat} {l : List Nat} (hp : Part n (f + 1) l) {st : Option (List Nat × Int)} {cost rest : Int} (h : ∀ s, st = some s → s.1.length = n) : ∀ k, k ≤ n → ∀ s, foldE c n f l cost rest st k = some s → s.1.length = n := by
 intro k
 induction k with
 | zero => intro _ s hs; exact h s hs
 | succ k ih =>
  intro hk s hs
  by_cases hm : k ∈ l
  ·rw [Go.Bd.foldE_in c n hm] at hs; exact ih (by omega) s hs
  ·rw [Go.Bd.foldE_out c n hm] at hs
   exact ext_len c n f (l ++ [k]) (hp.snoc (by omega) hm) _ _ _ (ih (by omega)) s hs
def ExtOk (m : List (List Int)) (f : Nat) (l : List Nat) (st : Option (List Nat × Int)) (cost rest : Int) : Prop :=
 CallsM Tryz.prog 51 [.ptr 1000 0 0 0, .int cost, .int rest] [(1000, .cells [.d (listsD m), .ref 1001 1 0 l.length l.length, bPV st, .int (lI st)]), (1001, .row 1 (l.map natD)), (2000, .dead)] (.tup [])
  [(1000, .cells [.d (listsD m), .ref 2000 1 0 l.length l.length, bPV (extF (cellAt m) m.length f l cost rest st), .int (lI (extF (cellAt m) m.length f l cost rest st))]), (1001, .gone), (2000, .row 1 (l.map natD))]
structure ExtIn (m : List (List Int)) (l : List Nat) (st : Option (List Nat × Int)) (cost rest : Int) : Prop where
 len : ∀ s, st = some s → s.1.length = m.length
 pos : 0 < m.length ∨ st = none
 c0 : 0 ≤ cost
 c1 : cost ≤ 8000000 * l.length
 r0 : -8000000 * l.length ≤ rest
 r1 : rest ≤ 64000000
theorem ext_shut (m : List (List Int)) (f : Nat) (l : List Nat) (st : Option (List Nat × Int)) (cost rest : Int) (hi : ExtIn m l st cost rest) (hl : l.length ≤ 8) (hsh : shut st (cost + rest) = true) (he : extF (cellAt m) m.length f l cost rest st = st) : ExtOk m f l st cost rest := by
 rw [ExtOk, he]
 rcases st with _ | ⟨b, k⟩
 ·cases hsh
 ·have hk : k ≤ cost + rest := by simpa [shut] using hsh
  have hbl := hi.len _ rfl
  have hpos : 0 < m.length := hi.pos.resolve_right (by simp)
  have hne : (b.map natD).isEmpty = false := by
   cases b with
   | nil => simp at hbl; omega
   | cons x b => rfl
  obtain ⟨_, _, c0, c1, r0, r1⟩ := hi
  simp only [bPV, lI]
  refine callsM_of Tryz.func51 rfl (by decide +kernel) (Nat.le_of_ble_eq_true rfl) rfl (nodup_of rfl) rfl rfl rfl ?_
  intro B X w0
  refine pw_post ?_
  repeat' first | refine pw_seq ?_ | refine pw_skip ?_ | refine pw_ret ?_ | refine pw_exit ?_ | refine pw_block ?_ | refine pw_region (fun _ => false) hmix ?_ | (refine wpG_split rfl rfl (fun hc => ?_) (fun hc => ?_) <;> try simp only [hcL, reduceCtorEq] at hc) | (refine pw_cond _ rfl rfl (fun hc => ?_) (fun hc => ?_) <;> (try simp only [hcL, reduceCtorEq] at hc) <;> try (exfalso; omega)) | simp (maxSteps := 1000000) (disch := omega) only [go_sem, simprocAttr, hne, hk] | apply And.intro | omega | decide +kernel
  refine ⟨_, ent_move 1001 2000 rfl (by decide) (by decide), ?_⟩
  exact ⟨⟨[], rfl, trivial⟩, List.forall_mem_cons.2 ⟨by simp [mvG, upd, obOf, Ob.ren, PV.ren], List.forall_mem_cons.2 ⟨rfl, List.forall_mem_cons.2 ⟨by simp [mvG, upd, obOf, Ob.ren, PV.ren], List.forall_mem_nil _⟩⟩⟩⟩
theorem ext_zero (m : List (List Int)) (hs : Sq m) (h8 : m.length ≤ 8) (l : List Nat) (hp : Part m.length 0 l) (st : Option (List Nat × Int)) (cost rest : Int) (hi : ExtIn m l st cost rest) (hsh : shut st (cost + rest) = false) : ExtOk m 0 l st cost rest := by
 have hll := hp.len
 have hlI : (l.length : Int) = m.length := by omega
 have he : extF (cellAt m) m.length 0 l cost rest st = some (l, cost) := by rw [extF, if_neg (by rw [hsh]; decide)]
 rw [ExtOk, he]
 have hcl := cloneN_spec l (by omega)
 rcases st with _ | ⟨b, k⟩
 ·obtain ⟨_, _, c0, c1, r0, r1⟩ := hi
  simp only [bPV, lI]
  refine callsM_of Tryz.func51 rfl (by decide +kernel) (Nat.le_of_ble_eq_true rfl) rfl (nodup_of rfl) rfl rfl rfl ?_
  intro B X w0
  refine pw_post ?_
  repeat' first | refine pw_seq ?_ | refine pw_skip ?_ | refine pw_ret ?_ | refine pw_exit ?_ | refine pw_block ?_ | refine pw_region (fun _ => false) hmix ?_ | refine rcM [(1000, 1001), (2000, 905)] (hcl) rfl ?_ | (refine wpG_split rfl rfl (fun hc => ?_) (fun hc => ?_) <;> try simp only [hcL, reduceCtorEq] at hc) | (refine pw_cond _ rfl rfl (fun hc => ?_) (fun hc => ?_) <;> (try simp only [hcL, reduceCtorEq] at hc) <;> try (exfalso; omega)) | simp (maxSteps := 1000000) (disch := omega) only [go_sem, simprocAttr, hlI] | apply And.intro | omega | decide +kernel
  refine ⟨_, Ent.trans (entL_iff.1 (eL [] [] [(1000, .cells [.d (listsD m), .ref 1001 1 0 l.length l.length, .ref 905 1 0 l.length l.length, .int cost]), (1001, .row 1 (l.map natD)), (905, .row 1 (l.map natD))] (by constructor <;> (repeat' first | exact List.forall_mem_nil _ | refine List.forall_mem_cons.2 ⟨rfl, ?_⟩)))) (Ent.trans (ent_freeze 905 1 (l.map natD) rfl (noGone_of _ rfl) (by decide)) (ent_move 1001 2000 rfl (by decide) (by decide))), ?_⟩
  exact ⟨⟨[], rfl, trivial⟩, List.forall_mem_cons.2 ⟨by simp [mvG, upd, obOf, Ob.ren, PV.ren, frzObs_at, Ob.frz, PV.frzL, PV.frz, take_map_len, hlI], List.forall_mem_cons.2 ⟨rfl, List.forall_mem_cons.2 ⟨by simp [mvG, upd, obOf, Ob.ren, PV.ren, frzObs_at, Ob.frz], List.forall_mem_nil _⟩⟩⟩⟩
 ·have hk : ¬ k ≤ cost + rest := by simpa [shut] using hsh
  have hbl := hi.len _ rfl
  have hpos : 0 < m.length := hi.pos.resolve_right (by simp)
  have hne : (b.map natD).isEmpty = false := by
   cases b with
   | nil => simp at hbl; omega
   | cons x b => rfl
  obtain ⟨_, _, c0, c1, r0, r1⟩ := hi
  simp only [bPV, lI]
  refine callsM_of Tryz.func51 rfl (by decide +kernel) (Nat.le_of_ble_eq_true rfl) rfl (nodup_of rfl) rfl rfl rfl ?_
  intro B X w0
  refine pw_post ?_
  repeat' first | refine pw_seq ?_ | refine pw_skip ?_ | refine pw_ret ?_ | refine pw_exit ?_ | refine pw_block ?_ | refine pw_region (fun _ => false) hmix ?_ | refine rcM [(1000, 1001), (2000, 905)] (hcl) rfl ?_ | (refine wpG_split rfl rfl (fun hc => ?_) (fun hc => ?_) <;> try simp only [hcL, reduceCtorEq] at hc) | (refine pw_cond _ rfl rfl (fun hc => ?_) (fun hc => ?_) <;> (try simp only [hcL, reduceCtorEq] at hc) <;> try (exfalso; omega)) | simp (maxSteps := 1000000) (disch := omega) only [go_sem, simprocAttr, hne, hk, hlI] | apply And.intro | omega | decide +kernel
  refine ⟨_, Ent.trans (entL_iff.1 (eL [] [] [(1000, .cells [.d (listsD m), .ref 1001 1 0 l.length l.length, .ref 905 1 0 l.length l.length, .int cost]), (1001, .row 1 (l.map natD)), (905, .row 1 (l.map natD))] (by constructor <;> (repeat' first | exact List.forall_mem_nil _ | refine List.forall_mem_cons.2 ⟨rfl, ?_⟩)))) (Ent.trans (ent_freeze 905 1 (l.map natD) rfl (noGone_of _ rfl) (by decide)) (ent_move 1001 2000 rfl (by decide) (by decide))), ?_⟩
  exact ⟨⟨[], rfl, trivial⟩, List.forall_mem_cons.2 ⟨by simp [mvG, upd, obOf, Ob.ren, PV.ren, frzObs_at, Ob.frz, PV.frzL, PV.frz, take_map_len, hlI], List.forall_mem_cons.2 ⟨rfl, List.forall_mem_cons.2 ⟨by simp [mvG, upd, obOf, Ob.ren, PV.ren, frzObs_at, Ob.frz], List.forall_mem_nil _⟩⟩⟩⟩
end Go.Proofs.YtldbcbclhpcofaaGreat
