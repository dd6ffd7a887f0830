/- Ordering: levels copied by the reference, one layer exchanged. -/
import Derived.Test.YtldbcbclhpcofaaGreatOrC
import Derived.Test.YtldbcbclhpcofaaGreatF
set_option linter.unusedSimpArgs false
set_option linter.unusedVariables false
namespace Go.Proofs.YtldbcbclhpcofaaGreat
open Go Go.PS Go.Proofs
set_option maxRecDepth 100000
attribute [local irreducible] Zax wpG Zah Zai

theorem fam_list {L : List (List Int)} {k : Nat} (h : L.length = k) : ((List.range k).map fun r => D.sl ((lstN L r).map D.int)) = L.map Zak := by
 refine List.ext_getElem? fun j => ?_
 by_cases c : j < k
 ·obtain ⟨x, hx⟩ := Zan (l := L) (k := j) (by omega)
  rw [List.getElem?_map, List.getElem?_range c, List.getElem?_map, hx, Option.map_some, Option.map_some, Zbo hx]
 ·rw [List.getElem?_eq_none (by simp; omega), List.getElem?_eq_none (by simp; omega)]
set_option maxHeartbeats 16000000 in
theorem with_spec (a : Lv) (i : Int) (lay : List Int) (L : List (List Int)) (hLl : L.length = a.2.1.length) (hL : ∀ (k : Nat) x, a.2.1[k]? = some x → L[k]? = some (if (k : Int) = i then lay else x))
  (hls : a.2.1.length ≤ 1000) (hxl : ∀ x, x ∈ a.2.1 → x.length ≤ 1000000) (hlay : lay.length ≤ 1000000) (har : a.2.2.1.length ≤ 1000000) (hcs : a.2.2.2.length ≤ 1000) (hcx : ∀ x, x ∈ a.2.2.2 → x.length ≤ 1000000) :
  Zah Tryz.prog 31 [lvD a, .int i, Zak lay] (lvD (a.1, L, a.2.2.1, a.2.2.2)) := by
 obtain ⟨n, ls, ar, cs⟩ := a
 dsimp only at *
 refine Zaf Tryz.func31 rfl (by decide +kernel) (Nat.le_of_ble_eq_true rfl) ?_
 intro hat B X w0
 repeat' first | refine Zad rfl ?_ | refine Zac ?_ | refine wR ?_ | (refine Zaa rfl rfl (fun hc => ?_) (fun hc => ?_) <;> try simp only [hcL] at hc) | (refine Zab _ rfl rfl (fun hc => ?_) (fun hc => ?_) <;> (try simp only [hcL] at hc) <;> try omega) | simp (disch := omega) only [go_sem, simprocAttr] | apply And.intro | omega | decide +kernel
 refine Zbd _ (Zcl 7 1 901 1 rfl rfl rfl) ?_
 refine Zaq (κ := Nat) (fun k => k ≤ ls.length) (fun k => [(1, .int i), (2, .d (Zak lay)), (3, .ptr 3 0 0 0), (6, .ptr 6 0 0 0), (7, .ptr 7 0 0 0), (8, .int k)])
  (fun k => match k with | 0 => [] | j + 1 => [⟨1, 901, 1, j + 1, fun r => (lstN L r).map D.int⟩])
  (fun k => match k with | 0 => [(3, .cells [.int n, .d (Zaj ls), .d (Zal ar), .d (Zaj cs)]), (6, .cells [.int 0, .nilS, .nilS, .nilS]), (7, .cells [.int n, .ref 901 1 0 0 0, .d (Zal ar), .d (Zaj cs)]), (901, .row 1 [])] | j + 1 => [(3, .cells [.int n, .d (Zaj ls), .d (Zal ar), .d (Zaj cs)]), (6, .cells [.int 0, .nilS, .nilS, .nilS]), (7, .cells [.int n, .ref 901 1 0 (j + 1) (j + 1), .d (Zal ar), .d (Zaj cs)])]) (fun k => ls.length - k) 0 ?_ ?_ ?_
 ·exact Nat.zero_le _
 ·refine eF [] [] _ _ _ (by refine ⟨?_, ?_⟩ <;> (repeat' first | exact fmn | refine fmc ⟨(by first | rfl | (simp (disch := omega) only [go_sem, simprocAttr, inL]; first | done | omega | (congr 1; done))), ?_⟩); done) ?_
  repeat' first | exact fmn | refine fmc ⟨?_, ?_⟩
  all_goals refine ⟨_, (by first | rfl | (simp (disch := omega) only [go_sem, simprocAttr]; done) | (simp (disch := omega) only [go_sem, simprocAttr]; rfl)), fun i hi => ?_⟩
  all_goals dsimp only at hi ⊢
  all_goals try (exfalso; omega)
  all_goals try (simp (disch := omega) only [go_sem, simprocAttr, Zaw, Zav]; done)
 ·intro k hk
  rcases Nat.lt_or_ge k ls.length with hkN | hkN
  ·cases k with
   | zero =>
    obtain ⟨x, hx⟩ := Zan hkN
    dsimp only
    have hLk := hL (0) x hx
    by_cases c : ((0 : Nat) : Int) = i
    ·rw [if_pos c] at hLk
     subst c
     have hl0 : lstN L (0) = lay := Zbo hLk
     have hWl : lay.length ≤ 1000000 := hlay
     have htW : (lay.map D.int).take lay.length = lay.map D.int := Zae _ _
     repeat' first | refine Zad rfl ?_ | refine Zac ?_ | refine Zcx (Nat.beq 31) hmix ?_ | (refine Zaa rfl rfl (fun hc => ?_) (fun hc => ?_) <;> try simp only [hcL] at hc) | (refine Zab _ rfl rfl (fun hc => ?_) (fun hc => ?_) <;> (try simp only [hcL] at hc) <;> try omega) | simp (disch := omega) only [go_sem, simprocAttr, List.append_eq, hx, Zbb, List.isEmpty_nil, List.length_map, Nat.zero_add, htW] | exact Zbs _ | apply And.intro | omega | decide +kernel
     refine ⟨1, ?_, eF [(fid 1 0, 33)] [(901, 35)] _ _ _ (by refine ⟨?_, ?_⟩ <;> (repeat' first | exact fmn | refine fmc ⟨(by first | rfl | (simp (disch := omega) only [go_sem, simprocAttr, inL, hl0, List.length_map]; first | done | omega | (congr 1; done))), ?_⟩); done) ?_, ?_⟩
     ·omega
     ·refine List.forall_mem_cons.2 ⟨⟨fun _ => .ref 33 1 0 lay.length lay.length, ?_, fun r hr => ?_⟩, List.forall_mem_nil _⟩
      ·rw [refs_one]
       simp (disch := omega) only [go_sem, simprocAttr, List.isEmpty_nil]
      ·obtain rfl : r = 0 := by dsimp only at hr; omega
       simp (disch := omega) only [go_sem, simprocAttr, hl0, List.length_map]
     ·omega
    ·rw [if_neg c] at hLk
     have hl0 : lstN L (0) = x := Zbo hLk
     have hWl : x.length ≤ 1000000 := hxl x (List.mem_of_getElem? hx)
     have htW : (x.map D.int).take x.length = x.map D.int := Zae _ _
     repeat' first | refine Zad rfl ?_ | refine Zac ?_ | refine Zcx (Nat.beq 31) hmix ?_ | (refine Zaa rfl rfl (fun hc => ?_) (fun hc => ?_) <;> try simp only [hcL] at hc) | (refine Zab _ rfl rfl (fun hc => ?_) (fun hc => ?_) <;> (try simp only [hcL] at hc) <;> try omega) | simp (disch := omega) only [go_sem, simprocAttr, List.append_eq, hx, c, Zbb, List.isEmpty_nil, List.length_map, Nat.zero_add, htW] | exact Zbs _ | apply And.intro | omega | decide +kernel
     refine ⟨1, ?_, eF [(fid 1 0, 33)] [(901, 35)] _ _ _ (by refine ⟨?_, ?_⟩ <;> (repeat' first | exact fmn | refine fmc ⟨(by first | rfl | (simp (disch := omega) only [go_sem, simprocAttr, inL, hl0, List.length_map]; first | done | omega | (congr 1; done))), ?_⟩); done) ?_, ?_⟩
     ·omega
     ·refine List.forall_mem_cons.2 ⟨⟨fun _ => .ref 33 1 0 x.length x.length, ?_, fun r hr => ?_⟩, List.forall_mem_nil _⟩
      ·rw [refs_one]
       simp (disch := omega) only [go_sem, simprocAttr, List.isEmpty_nil]
      ·obtain rfl : r = 0 := by dsimp only at hr; omega
       simp (disch := omega) only [go_sem, simprocAttr, hl0, List.length_map]
     ·omega
   | succ k =>
    obtain ⟨x, hx⟩ := Zan hkN
    dsimp only
    have hLk := hL (k + 1) x hx
    by_cases c : ((k + 1 : Nat) : Int) = i
    ·rw [if_pos c] at hLk
     subst c
     have hl0 : lstN L (k + 1) = lay := Zbo hLk
     have hWl : lay.length ≤ 1000000 := hlay
     have htW : (lay.map D.int).take lay.length = lay.map D.int := Zae _ _
     repeat' first | refine Zad rfl ?_ | refine Zac ?_ | refine Zcx (Nat.beq 31) hmix ?_ | (refine Zaa rfl rfl (fun hc => ?_) (fun hc => ?_) <;> try simp only [hcL] at hc) | (refine Zab _ rfl rfl (fun hc => ?_) (fun hc => ?_) <;> (try simp only [hcL] at hc) <;> try omega) | simp (disch := omega) only [go_sem, simprocAttr, List.append_eq, hx, Zbb, List.isEmpty_nil, List.length_map, Nat.zero_add, htW] | exact Zbs _ | apply And.intro | omega | decide +kernel
     refine ⟨k + 2, ?_, eF [(fid 1 (k + 1), 33)] [(901, 35)] _ _ _ (by refine ⟨?_, ?_⟩ <;> (repeat' first | exact fmn | refine fmc ⟨(by first | rfl | (simp (disch := omega) only [go_sem, simprocAttr, inL, hl0, List.length_map]; first | done | omega | (congr 1; done))), ?_⟩); done) ?_, ?_⟩
     ·omega
     ·repeat' first | exact fmn | refine fmc ⟨?_, ?_⟩
      all_goals refine ⟨_, (by first | rfl | (simp (disch := omega) only [go_sem, simprocAttr, hl0, List.length_map]; done) | (simp (disch := omega) only [go_sem, simprocAttr, hl0, List.length_map]; rfl)), fun i hi => ?_⟩
      all_goals dsimp only at hi ⊢
      all_goals rcases Decidable.em (i = k+1) with rfl | hi0
      all_goals try (exfalso; omega)
      all_goals try (simp (disch := omega) only [go_sem, simprocAttr, hl0, List.length_map, Zaw, Zav]; done)
      all_goals try (simp (disch := omega) only [go_sem, simprocAttr, hl0, List.length_map, hi0, Zaw, Zav]; done)
     ·omega
    ·rw [if_neg c] at hLk
     have hl0 : lstN L (k + 1) = x := Zbo hLk
     have hWl : x.length ≤ 1000000 := hxl x (List.mem_of_getElem? hx)
     have htW : (x.map D.int).take x.length = x.map D.int := Zae _ _
     repeat' first | refine Zad rfl ?_ | refine Zac ?_ | refine Zcx (Nat.beq 31) hmix ?_ | (refine Zaa rfl rfl (fun hc => ?_) (fun hc => ?_) <;> try simp only [hcL] at hc) | (refine Zab _ rfl rfl (fun hc => ?_) (fun hc => ?_) <;> (try simp only [hcL] at hc) <;> try omega) | simp (disch := omega) only [go_sem, simprocAttr, List.append_eq, hx, c, Zbb, List.isEmpty_nil, List.length_map, Nat.zero_add, htW] | exact Zbs _ | apply And.intro | omega | decide +kernel
     refine ⟨k + 2, ?_, eF [(fid 1 (k + 1), 33)] [(901, 35)] _ _ _ (by refine ⟨?_, ?_⟩ <;> (repeat' first | exact fmn | refine fmc ⟨(by first | rfl | (simp (disch := omega) only [go_sem, simprocAttr, inL, hl0, List.length_map]; first | done | omega | (congr 1; done))), ?_⟩); done) ?_, ?_⟩
     ·omega
     ·repeat' first | exact fmn | refine fmc ⟨?_, ?_⟩
      all_goals refine ⟨_, (by first | rfl | (simp (disch := omega) only [go_sem, simprocAttr, hl0, List.length_map]; done) | (simp (disch := omega) only [go_sem, simprocAttr, hl0, List.length_map]; rfl)), fun i hi => ?_⟩
      all_goals dsimp only at hi ⊢
      all_goals rcases Decidable.em (i = k+1) with rfl | hi0
      all_goals try (exfalso; omega)
      all_goals try (simp (disch := omega) only [go_sem, simprocAttr, hl0, List.length_map, Zaw, Zav]; done)
      all_goals try (simp (disch := omega) only [go_sem, simprocAttr, hl0, List.length_map, hi0, Zaw, Zav]; done)
     ·omega
  ·cases k with
   | zero =>
    have hN0 : ls.length = 0 := by omega
    dsimp only
    have hL0 : L = [] := List.length_eq_zero_iff.1 (by omega)
    subst hL0
    have hls0 : ls = [] := List.length_eq_zero_iff.1 hN0
    subst hls0
    repeat' first | refine Zad rfl ?_ | refine Zac ?_ | refine Zcx (Nat.beq 37) hmix ?_ | (refine Zaa rfl rfl (fun hc => ?_) (fun hc => ?_) <;> try simp only [hcL] at hc) | (refine Zab _ rfl rfl (fun hc => ?_) (fun hc => ?_) <;> (try simp only [hcL] at hc) <;> try omega) | simp (disch := omega) only [go_sem, simprocAttr, Zbb, List.length_map, Nat.zero_add, Zae, List.append_eq] | exact arc_cells ar | apply And.intro | omega | decide +kernel
    refine Zbd _ (Zcl 7 3 902 1 rfl rfl rfl) ?_
    refine Zaq (κ := Nat) (fun k => k ≤ cs.length) (fun k => [(3, .ptr 3 0 0 0), (6, .ptr 6 0 0 0), (7, .ptr 7 0 0 0), (10, .int k)])
     (fun k => match k with | 0 => [] | j + 1 => [⟨1, 902, 1, j + 1, fun r => (lstN cs r).map D.int⟩])
     (fun k => match k with | 0 => [(3, .cells [.int n, .d (Zaj []), .d (Zal ar), .d (Zaj cs)]), (6, .cells [.int 0, .nilS, .nilS, .nilS]), (7, .cells [.int n, .ref 901 1 0 0 0, .ref 40 2 0 ar.length ar.length, .ref 902 1 0 0 0]), (901, .row 1 []), (40, .row 2 (ar.map arcD)), (902, .row 1 [])] | j + 1 => [(3, .cells [.int n, .d (Zaj []), .d (Zal ar), .d (Zaj cs)]), (6, .cells [.int 0, .nilS, .nilS, .nilS]), (7, .cells [.int n, .ref 901 1 0 0 0, .ref 40 2 0 ar.length ar.length, .ref 902 1 0 (j + 1) (j + 1)]), (901, .row 1 []), (40, .row 2 (ar.map arcD))]) (fun k => cs.length - k) 0 ?_ ?_ ?_
    ·exact Nat.zero_le _
    ·refine eF [] [] _ _ _ (by refine ⟨?_, ?_⟩ <;> (repeat' first | exact fmn | refine fmc ⟨(by first | rfl | (simp (disch := omega) only [go_sem, simprocAttr, inL]; first | done | omega | (congr 1; done))), ?_⟩); done) ?_
     repeat' first | exact fmn | refine fmc ⟨?_, ?_⟩
     all_goals refine ⟨_, (by first | rfl | (simp (disch := omega) only [go_sem, simprocAttr]; done) | (simp (disch := omega) only [go_sem, simprocAttr]; rfl)), fun i hi => ?_⟩
     all_goals dsimp only at hi ⊢
     all_goals try (exfalso; omega)
     all_goals try (simp (disch := omega) only [go_sem, simprocAttr, Zaw, Zav]; done)
    ·intro k hk
     rcases Nat.lt_or_ge k cs.length with hkN | hkN
     ·cases k with
      | zero =>
       obtain ⟨x, hx⟩ := Zan hkN
       dsimp only
       have hl0 : lstN cs (0) = x := Zbo hx
       have hWl : x.length ≤ 1000000 := hcx x (List.mem_of_getElem? hx)
       have htW : (x.map D.int).take x.length = x.map D.int := Zae _ _
       repeat' first | refine Zad rfl ?_ | refine Zac ?_ | refine Zcx (Nat.beq 52) hmix ?_ | (refine Zaa rfl rfl (fun hc => ?_) (fun hc => ?_) <;> try simp only [hcL] at hc) | (refine Zab _ rfl rfl (fun hc => ?_) (fun hc => ?_) <;> (try simp only [hcL] at hc) <;> try omega) | simp (disch := omega) only [go_sem, simprocAttr, List.append_eq, hx, Zbb, List.isEmpty_nil, List.length_map, Nat.zero_add, htW] | exact Zbs _ | apply And.intro | omega | decide +kernel
       refine ⟨1, ?_, eF [(fid 1 0, 58)] [(902, 60)] _ _ _ (by refine ⟨?_, ?_⟩ <;> (repeat' first | exact fmn | refine fmc ⟨(by first | rfl | (simp (disch := omega) only [go_sem, simprocAttr, inL, hl0, List.length_map]; first | done | omega | (congr 1; done))), ?_⟩); done) ?_, ?_⟩
       ·omega
       ·refine List.forall_mem_cons.2 ⟨⟨fun _ => .ref 58 1 0 x.length x.length, ?_, fun r hr => ?_⟩, List.forall_mem_nil _⟩
        ·rw [refs_one]
         simp (disch := omega) only [go_sem, simprocAttr, List.isEmpty_nil]
        ·obtain rfl : r = 0 := by dsimp only at hr; omega
         simp (disch := omega) only [go_sem, simprocAttr, hl0, List.length_map]
       ·omega
      | succ k =>
       obtain ⟨x, hx⟩ := Zan hkN
       dsimp only
       have hl0 : lstN cs (k + 1) = x := Zbo hx
       have hWl : x.length ≤ 1000000 := hcx x (List.mem_of_getElem? hx)
       have htW : (x.map D.int).take x.length = x.map D.int := Zae _ _
       repeat' first | refine Zad rfl ?_ | refine Zac ?_ | refine Zcx (Nat.beq 52) hmix ?_ | (refine Zaa rfl rfl (fun hc => ?_) (fun hc => ?_) <;> try simp only [hcL] at hc) | (refine Zab _ rfl rfl (fun hc => ?_) (fun hc => ?_) <;> (try simp only [hcL] at hc) <;> try omega) | simp (disch := omega) only [go_sem, simprocAttr, List.append_eq, hx, Zbb, List.isEmpty_nil, List.length_map, Nat.zero_add, htW] | exact Zbs _ | apply And.intro | omega | decide +kernel
       refine ⟨k + 2, ?_, eF [(fid 1 (k + 1), 58)] [(902, 60)] _ _ _ (by refine ⟨?_, ?_⟩ <;> (repeat' first | exact fmn | refine fmc ⟨(by first | rfl | (simp (disch := omega) only [go_sem, simprocAttr, inL, hl0, List.length_map]; first | done | omega | (congr 1; done))), ?_⟩); done) ?_, ?_⟩
       ·omega
       ·repeat' first | exact fmn | refine fmc ⟨?_, ?_⟩
        all_goals refine ⟨_, (by first | rfl | (simp (disch := omega) only [go_sem, simprocAttr, hl0, List.length_map]; done) | (simp (disch := omega) only [go_sem, simprocAttr, hl0, List.length_map]; rfl)), fun i hi => ?_⟩
        all_goals dsimp only at hi ⊢
        all_goals rcases Decidable.em (i = k+1) with rfl | hi0
        all_goals try (exfalso; omega)
        all_goals try (simp (disch := omega) only [go_sem, simprocAttr, hl0, List.length_map, Zaw, Zav]; done)
        all_goals try (simp (disch := omega) only [go_sem, simprocAttr, hl0, List.length_map, hi0, Zaw, Zav]; done)
       ·omega
     ·cases k with
      | zero =>
       have hN0 : cs.length = 0 := by omega
       dsimp only
       have hcs0 : cs = [] := List.length_eq_zero_iff.1 hN0
       subst hcs0
       repeat' first | refine Zad rfl ?_ | refine Zac ?_ | refine wR ?_ | (refine Zaa rfl rfl (fun hc => ?_) (fun hc => ?_) <;> try simp only [hcL] at hc) | (refine Zab _ rfl rfl (fun hc => ?_) (fun hc => ?_) <;> (try simp only [hcL] at hc) <;> try omega) | simp (disch := omega) only [go_sem, simprocAttr] | apply And.intro | omega | decide +kernel
       refine ⟨_, _, _, _, rfl, ?_⟩
       simp (disch := omega) only [go_sem, simprocAttr, toD, hLl, List.length_map, List.length_range, Nat.le_refl, List.drop_zero, List.take_zero, List.map_nil]
       all_goals try rw [List.take_of_length_le (by simp [hLl])]
       all_goals try rw [Zae]
       all_goals try rw [Zae]
       all_goals rfl
      | succ k =>
       obtain ⟨N, hN⟩ : ∃ N, N = k + 1 := ⟨_, rfl⟩
       have hNl : cs.length = k + 1 := by omega
       dsimp only
       refine Zbd _ (Zcp _ _ _ _ ⟨Zba rfl, Zba rfl, (by (repeat' first | exact fmn | refine fmc ⟨⟨Nat.le_of_ble_eq_true rfl, Nat.le_of_ble_eq_true rfl, by dsimp only; omega⟩, ?_⟩); done)⟩ rfl [3, 6, 7, 902, 901, 40] rfl rfl rfl rfl) ?_
       rw [fam_list hNl, ← hNl]
       repeat' first | refine Zad rfl ?_ | refine Zac ?_ | refine wR ?_ | (refine Zaa rfl rfl (fun hc => ?_) (fun hc => ?_) <;> try simp only [hcL] at hc) | (refine Zab _ rfl rfl (fun hc => ?_) (fun hc => ?_) <;> (try simp only [hcL] at hc) <;> try omega) | simp (disch := omega) only [go_sem, simprocAttr] | apply And.intro | omega | decide +kernel
       refine ⟨_, _, _, _, rfl, ?_⟩
       simp (disch := omega) only [go_sem, simprocAttr, toD, hLl, List.length_map, List.length_range, Nat.le_refl, List.drop_zero]
       all_goals try rw [List.take_of_length_le (by simp [hLl])]
       all_goals try rw [Zae]
       all_goals try rw [Zae]
       all_goals rfl
   | succ k =>
    obtain ⟨N, hN⟩ : ∃ N, N = k + 1 := ⟨_, rfl⟩
    have hNl : ls.length = k + 1 := by omega
    dsimp only
    refine Zbd _ (Zcp _ _ _ _ ⟨Zba rfl, Zba rfl, (by (repeat' first | exact fmn | refine fmc ⟨⟨Nat.le_of_ble_eq_true rfl, Nat.le_of_ble_eq_true rfl, by dsimp only; omega⟩, ?_⟩); done)⟩ rfl [3, 6, 7, 901] rfl rfl rfl rfl) ?_
    have hLk : L.length = k + 1 := by omega
    have hLs : ¬ (ls.length : Int) < ls.length := Int.lt_irrefl _
    rw [fam_list hLk, ← hNl]
    repeat' first | refine Zad rfl ?_ | refine Zac ?_ | refine Zcx (Nat.beq 37) hmix ?_ | (refine Zaa rfl rfl (fun hc => ?_) (fun hc => ?_) <;> try simp only [hcL] at hc) | (refine Zab _ rfl rfl (fun hc => ?_) (fun hc => ?_) <;> (try simp only [hcL] at hc) <;> try omega) | simp (disch := omega) only [go_sem, simprocAttr, Zbb, List.length_map, Nat.zero_add, Zae, List.append_eq, hLs] | exact arc_cells ar | apply And.intro | omega | decide +kernel
    refine Zbd _ (Zcl 7 3 902 1 rfl rfl rfl) ?_
    refine Zaq (κ := Nat) (fun k => k ≤ cs.length) (fun k => [(3, .ptr 3 0 0 0), (6, .ptr 6 0 0 0), (7, .ptr 7 0 0 0), (10, .int k)])
     (fun k => match k with | 0 => [] | j + 1 => [⟨1, 902, 1, j + 1, fun r => (lstN cs r).map D.int⟩])
     (fun k => match k with | 0 => [(3, .cells [.int n, .d (Zaj ls), .d (Zal ar), .d (Zaj cs)]), (6, .cells [.int 0, .nilS, .nilS, .nilS]), (7, .cells [.int n, .ref 901 1 0 ls.length ls.length, .ref 40 2 0 ar.length ar.length, .ref 902 1 0 0 0]), (901, .row 1 (L.map Zak)), (40, .row 2 (ar.map arcD)), (902, .row 1 [])] | j + 1 => [(3, .cells [.int n, .d (Zaj ls), .d (Zal ar), .d (Zaj cs)]), (6, .cells [.int 0, .nilS, .nilS, .nilS]), (7, .cells [.int n, .ref 901 1 0 ls.length ls.length, .ref 40 2 0 ar.length ar.length, .ref 902 1 0 (j + 1) (j + 1)]), (901, .row 1 (L.map Zak)), (40, .row 2 (ar.map arcD))]) (fun k => cs.length - k) 0 ?_ ?_ ?_
    ·exact Nat.zero_le _
    ·refine eF [] [] _ _ _ (by refine ⟨?_, ?_⟩ <;> (repeat' first | exact fmn | refine fmc ⟨(by first | rfl | (simp (disch := omega) only [go_sem, simprocAttr, inL]; first | done | omega | (congr 1; done))), ?_⟩); done) ?_
     repeat' first | exact fmn | refine fmc ⟨?_, ?_⟩
     all_goals refine ⟨_, (by first | rfl | (simp (disch := omega) only [go_sem, simprocAttr]; done) | (simp (disch := omega) only [go_sem, simprocAttr]; rfl)), fun i hi => ?_⟩
     all_goals dsimp only at hi ⊢
     all_goals try (exfalso; omega)
     all_goals try (simp (disch := omega) only [go_sem, simprocAttr, Zaw, Zav]; done)
    ·intro k hk
     rcases Nat.lt_or_ge k cs.length with hkN | hkN
     ·cases k with
      | zero =>
       obtain ⟨x, hx⟩ := Zan hkN
       dsimp only
       have hl0 : lstN cs (0) = x := Zbo hx
       have hWl : x.length ≤ 1000000 := hcx x (List.mem_of_getElem? hx)
       have htW : (x.map D.int).take x.length = x.map D.int := Zae _ _
       repeat' first | refine Zad rfl ?_ | refine Zac ?_ | refine Zcx (Nat.beq 52) hmix ?_ | (refine Zaa rfl rfl (fun hc => ?_) (fun hc => ?_) <;> try simp only [hcL] at hc) | (refine Zab _ rfl rfl (fun hc => ?_) (fun hc => ?_) <;> (try simp only [hcL] at hc) <;> try omega) | simp (disch := omega) only [go_sem, simprocAttr, List.append_eq, hx, Zbb, List.isEmpty_nil, List.length_map, Nat.zero_add, htW] | exact Zbs _ | apply And.intro | omega | decide +kernel
       refine ⟨1, ?_, eF [(fid 1 0, 58)] [(902, 60)] _ _ _ (by refine ⟨?_, ?_⟩ <;> (repeat' first | exact fmn | refine fmc ⟨(by first | rfl | (simp (disch := omega) only [go_sem, simprocAttr, inL, hl0, List.length_map]; first | done | omega | (congr 1; done))), ?_⟩); done) ?_, ?_⟩
       ·omega
       ·refine List.forall_mem_cons.2 ⟨⟨fun _ => .ref 58 1 0 x.length x.length, ?_, fun r hr => ?_⟩, List.forall_mem_nil _⟩
        ·rw [refs_one]
         simp (disch := omega) only [go_sem, simprocAttr, List.isEmpty_nil]
        ·obtain rfl : r = 0 := by dsimp only at hr; omega
         simp (disch := omega) only [go_sem, simprocAttr, hl0, List.length_map]
       ·omega
      | succ k =>
       obtain ⟨x, hx⟩ := Zan hkN
       dsimp only
       have hl0 : lstN cs (k + 1) = x := Zbo hx
       have hWl : x.length ≤ 1000000 := hcx x (List.mem_of_getElem? hx)
       have htW : (x.map D.int).take x.length = x.map D.int := Zae _ _
       repeat' first | refine Zad rfl ?_ | refine Zac ?_ | refine Zcx (Nat.beq 52) hmix ?_ | (refine Zaa rfl rfl (fun hc => ?_) (fun hc => ?_) <;> try simp only [hcL] at hc) | (refine Zab _ rfl rfl (fun hc => ?_) (fun hc => ?_) <;> (try simp only [hcL] at hc) <;> try omega) | simp (disch := omega) only [go_sem, simprocAttr, List.append_eq, hx, Zbb, List.isEmpty_nil, List.length_map, Nat.zero_add, htW] | exact Zbs _ | apply And.intro | omega | decide +kernel
       refine ⟨k + 2, ?_, eF [(fid 1 (k + 1), 58)] [(902, 60)] _ _ _ (by refine ⟨?_, ?_⟩ <;> (repeat' first | exact fmn | refine fmc ⟨(by first | rfl | (simp (disch := omega) only [go_sem, simprocAttr, inL, hl0, List.length_map]; first | done | omega | (congr 1; done))), ?_⟩); done) ?_, ?_⟩
       ·omega
       ·repeat' first | exact fmn | refine fmc ⟨?_, ?_⟩
        all_goals refine ⟨_, (by first | rfl | (simp (disch := omega) only [go_sem, simprocAttr, hl0, List.length_map]; done) | (simp (disch := omega) only [go_sem, simprocAttr, hl0, List.length_map]; rfl)), fun i hi => ?_⟩
        all_goals dsimp only at hi ⊢
        all_goals rcases Decidable.em (i = k+1) with rfl | hi0
        all_goals try (exfalso; omega)
        all_goals try (simp (disch := omega) only [go_sem, simprocAttr, hl0, List.length_map, Zaw, Zav]; done)
        all_goals try (simp (disch := omega) only [go_sem, simprocAttr, hl0, List.length_map, hi0, Zaw, Zav]; done)
       ·omega
     ·cases k with
      | zero =>
       have hN0 : cs.length = 0 := by omega
       dsimp only
       have hcs0 : cs = [] := List.length_eq_zero_iff.1 hN0
       subst hcs0
       repeat' first | refine Zad rfl ?_ | refine Zac ?_ | refine wR ?_ | (refine Zaa rfl rfl (fun hc => ?_) (fun hc => ?_) <;> try simp only [hcL] at hc) | (refine Zab _ rfl rfl (fun hc => ?_) (fun hc => ?_) <;> (try simp only [hcL] at hc) <;> try omega) | simp (disch := omega) only [go_sem, simprocAttr] | apply And.intro | omega | decide +kernel
       refine ⟨_, _, _, _, rfl, ?_⟩
       simp (disch := omega) only [go_sem, simprocAttr, toD, hLl, List.length_map, List.length_range, Nat.le_refl, List.drop_zero, List.take_zero, List.map_nil]
       all_goals try rw [List.take_of_length_le (by simp [hLl])]
       all_goals try rw [Zae]
       all_goals try rw [Zae]
       all_goals rfl
      | succ k =>
       obtain ⟨N, hN⟩ : ∃ N, N = k + 1 := ⟨_, rfl⟩
       have hNl : cs.length = k + 1 := by omega
       dsimp only
       refine Zbd _ (Zcp _ _ _ _ ⟨Zba rfl, Zba rfl, (by (repeat' first | exact fmn | refine fmc ⟨⟨Nat.le_of_ble_eq_true rfl, Nat.le_of_ble_eq_true rfl, by dsimp only; omega⟩, ?_⟩); done)⟩ rfl [3, 6, 7, 902, 901, 40] rfl rfl rfl rfl) ?_
       rw [fam_list hNl, ← hNl]
       repeat' first | refine Zad rfl ?_ | refine Zac ?_ | refine wR ?_ | (refine Zaa rfl rfl (fun hc => ?_) (fun hc => ?_) <;> try simp only [hcL] at hc) | (refine Zab _ rfl rfl (fun hc => ?_) (fun hc => ?_) <;> (try simp only [hcL] at hc) <;> try omega) | simp (disch := omega) only [go_sem, simprocAttr] | apply And.intro | omega | decide +kernel
       refine ⟨_, _, _, _, rfl, ?_⟩
       simp (disch := omega) only [go_sem, simprocAttr, toD, hLl, List.length_map, List.length_range, Nat.le_refl, List.drop_zero]
       all_goals try rw [List.take_of_length_le (by simp [hLl])]
       all_goals try rw [Zae]
       all_goals try rw [Zae]
       all_goals rfl
end Go.Proofs.YtldbcbclhpcofaaGreat
namespace Go.Proofs.YtldbcbclhpcofaaGreat
open Go Go.PS Go.Proofs
open Go.Bd (sm sumC Part)
set_option maxRecDepth 100000
attribute [local irreducible] Zax wpG Zah Zai

theorem oplaces_spec (y : List Int) (o : List Nat) (ho : Part y.length 0 o) (hyl : y.length ≤ 1000) : Zah Tryz.prog 32 [Zak y, Zam o] (Zak (Zbl y o)) := by
 have hol := ho.len
 refine Zaf Tryz.func32 rfl (by decide +kernel) (Nat.le_of_ble_eq_true rfl) ?_
 intro hat B X w0
 repeat' first | refine Zad rfl ?_ | refine Zac ?_ | refine Zcx (Nat.beq 7) hmix ?_ | (refine Zaa rfl rfl (fun hc => ?_) (fun hc => ?_) <;> try simp only [hcL] at hc) | (refine Zab _ rfl rfl (fun hc => ?_) (fun hc => ?_) <;> (try simp only [hcL] at hc) <;> try omega) | simp (disch := omega) only [go_sem, simprocAttr] | apply And.intro | omega | decide +kernel
 refine Zap (κ := Nat) (fun (k : Nat) => k ≤ o.length) (fun (k : Nat) => [(0, .d (Zak y)), (1, .d (Zam o)), (5, .ref 901 1 0 k k), (6, .int k)]) (fun (k : Nat) => [(901, .row 1 (((Zbl y o).take k).map D.int))]) (fun (k : Nat) => o.length - k) 0 ?_ ?_ ?_
 ·exact Nat.zero_le _
 ·exact eL [(901, 7)] _ _ (by refine ⟨?_, ?_⟩ <;> (repeat' first | exact fmn | refine fmc ⟨(by first | rfl | (simp (disch := omega) only [go_sem, simprocAttr, inL, List.take_zero, List.map_nil]; first | done | omega | (congr 1; done))), ?_⟩); done)
 ·intro k hk
  have hlk : ((Zbl y o).take k).length = k := by rw [List.length_take, permL_len]; omega
  have htk : (((Zbl y o).take k).map D.int).take k = ((Zbl y o).take k).map D.int := List.take_of_length_le (by rw [List.length_map, hlk]; exact Nat.le_refl _)
  rcases Nat.lt_or_ge k o.length with hlt | hge
  ·obtain ⟨q, hq⟩ := Zan hlt
   have hqn := ho.lt q (List.mem_of_getElem? hq)
   have hyq : y[q]? = some (yG y q) := by rw [yG, List.getElem?_eq_getElem hqn]; rfl
   have e1 : (Zbl y o).take (k + 1) = (Zbl y o).take k ++ [yG y q] := Zat (by rw [Zbl, List.getElem?_map, hq]; rfl)
   generalize (Zbl y o).take k = R at *
   repeat' first | refine Zad rfl ?_ | refine Zac ?_ | refine wR ?_ | (refine Zaa rfl rfl (fun hc => ?_) (fun hc => ?_) <;> try simp only [hcL] at hc) | (refine Zab _ rfl rfl (fun hc => ?_) (fun hc => ?_) <;> (try simp only [hcL] at hc) <;> try omega) | simp (disch := omega) only [go_sem, simprocAttr, hq, hyq, hlk, htk, Zbb] | exact Zbs _ | apply And.intro | omega | decide +kernel
   refine ⟨k + 1, ?_, eL [(901, 23)] _ _ (by refine ⟨?_, ?_⟩ <;> (repeat' first | exact fmn | refine fmc ⟨(by first | rfl | (simp (disch := omega) only [go_sem, simprocAttr, inL, e1, htk, List.map_append, List.map_cons, List.map_nil]; first | done | omega | (congr 1; done))), ?_⟩); done), ?_⟩
   ·omega
   ·omega
  ·have : k = o.length := by omega
   subst this
   have hfull : (Zbl y o).take o.length = Zbl y o := List.take_of_length_le (by rw [permL_len]; exact Nat.le_refl _)
   rw [hfull] at hlk htk
   rw [hfull]
   repeat' first | refine Zad rfl ?_ | refine Zac ?_ | refine wR ?_ | (refine Zaa rfl rfl (fun hc => ?_) (fun hc => ?_) <;> try simp only [hcL] at hc) | (refine Zab _ rfl rfl (fun hc => ?_) (fun hc => ?_) <;> (try simp only [hcL] at hc) <;> try omega) | simp (disch := omega) only [go_sem, simprocAttr] | apply And.intro | omega | decide +kernel
   exact Zci (o := 901) rfl rfl (by simp [hlk]) htk
theorem with_put (a : Lv) (i : Nat) (z : List Int) (hv : Zay a = true) (hz : z.length ≤ 1000) (hi : i < a.2.1.length) :
  Zah Tryz.prog 31 [lvD a, .int i, Zak z] (lvD (putL a i z)) := by
 obtain ⟨s1, s2, s3⟩ := Zcu hv
 obtain ⟨t1, t2⟩ := Zcq hv
 refine with_spec a i z (a.2.1.set i z) List.length_set (fun k x hx => ?_) (by omega) (fun x hx => by have := Zbq hx; omega) (by omega) (by omega) (by omega) (fun x hx => by have := s3 x hx; omega)
 rw [List.getElem?_set]
 by_cases c : i = k
 ·subst c
  rw [if_pos rfl, if_pos hi, if_pos rfl]
 ·rw [if_neg c, hx, if_neg (by omega)]
theorem with_none (a : Lv) (hv : Zay a = true) : Zah Tryz.prog 31 [lvD a, .int (-1), Zak []] (lvD a) := by
 obtain ⟨s1, s2, s3⟩ := Zcu hv
 obtain ⟨t1, t2⟩ := Zcq hv
 exact with_spec a (-1) [] a.2.1 rfl (fun k x hx => by rw [hx, if_neg (by omega)]) (by omega) (fun x hx => by have := Zbq hx; omega) (by decide) (by omega) (by omega) (fun x hx => by have := s3 x hx; omega)
set_option maxHeartbeats 8000000 in
theorem improved_spec (a : Lv) (i : Nat) (hw : wide a) (hv : Zay a = true) (har : a.2.2.1.length ≤ 700) (hil : i < a.2.1.length) :
  Zah Tryz.prog 35 [lvD a, .int i] (.tup [Zam (betF a i).1, .bool (betF a i).2]) := by
 obtain ⟨y, hy⟩ := Zan hil
 have hyl := Zbq (List.mem_of_getElem? hy)
 obtain ⟨t1, t2⟩ := Zcq hv
 rw [betF, Zbo hy]
 by_cases h8 : 8 < y.length
 ·rw [if_pos h8]
  obtain ⟨n, ls, ar, cs⟩ := a
  dsimp only at *
  refine Zaf Tryz.func35 rfl (by decide +kernel) (Nat.le_of_ble_eq_true rfl) ?_
  intro hat B X w0
  repeat' first | refine Zad rfl ?_ | refine Zac ?_ | refine wR ?_ | (refine Zaa rfl rfl (fun hc => ?_) (fun hc => ?_) <;> try simp only [hcL] at hc) | (refine Zab _ rfl rfl (fun hc => ?_) (fun hc => ?_) <;> (try simp only [hcL] at hc) <;> try omega) | simp (disch := omega) only [go_sem, simprocAttr, hy] | apply And.intro | omega | decide +kernel
  exact ⟨_, rfl, Zcd rfl, Zas rfl, trivial⟩
 ·rw [if_neg h8]
  have h2 := oSum_spec a i hw hv hil
  have hmok := orM_ok (i := i) har (by rw [Zbo hy]; exact h8)
  have h3 := rLeast_spec (orM a i)
  rw [if_pos hmok] at h3
  obtain ⟨hs, hm8⟩ := ok_sq hmok
  have hml := orM_len a i
  rw [Zbo hy] at hml
  have hbb : 0 ≤ (Zbm (orM a i)).2 ∧ (Zbm (orM a i)).2 ≤ 64000000 := by
   obtain ⟨g1, g2, _⟩ := Go.Bd.best_bounds hs.small hm8 (part_nil _) (bestAll_eq (orM a i))
   exact ⟨g1, g2⟩
  have hnow : nowS (orM a i) (orM a i).length = sumC (Zao (orM a i)) (List.range (orM a i).length) := by
   rw [nowS, Go.Bd.sumC_range]
  rw [betB, Zbo hy, ← hml, ← hnow]
  have hnl := now_le hs hm8
  have hni := now_in hs
  have hS : ∀ A, nowS (orM a i) (A + 1) = nowS (orM a i) A + sm (fun j => Zao (orM a i) A (A + 1 + j)) ((orM a i).length - 1 - A) := fun _ => rfl
  have hS0 : nowS (orM a i) 0 = 0 := rfl
  generalize orM a i = m at *
  generalize nowS m = S at *
  generalize Zbm m = BB at *
  obtain ⟨p, cost⟩ := BB
  obtain ⟨n, ls, ar, cs⟩ := a
  dsimp only at *
  obtain ⟨N, hN⟩ : ∃ N, N = m.length := ⟨_, rfl⟩
  rw [← hN] at hml hS hm8 ⊢
  refine Zaf Tryz.func35 rfl (by decide +kernel) (Nat.le_of_ble_eq_true rfl) ?_
  intro hat B X w0
  repeat' first | refine Zad rfl ?_ | refine Zac ?_ | refine wR ?_ | (refine rc (h2) rfl ?_ ?_; (· first | rfl | simp (disch := omega) only [go_sem, simprocAttr, hy, ← hml])) | (refine Zaa rfl rfl (fun hc => ?_) (fun hc => ?_) <;> try simp only [hcL] at hc) | (refine Zab _ rfl rfl (fun hc => ?_) (fun hc => ?_) <;> (try simp only [hcL] at hc) <;> try omega) | simp (disch := omega) only [go_sem, simprocAttr, hy, ← hml] | apply And.intro | omega | decide +kernel
  refine Zap (κ := Nat) (fun (u : Nat) => u ≤ N) (fun (u : Nat) => [(6, .int N), (7, .d (Zaj m)), (8, .int (S u)), (9, .int u)]) (fun (u : Nat) => []) (fun (u : Nat) => N - u) 0 ?_ ?_ ?_
  ·exact Nat.zero_le _
  ·exact eL [] _ _ (by refine ⟨?_, ?_⟩ <;> (repeat' first | exact fmn | refine fmc ⟨(by first | rfl | (simp (disch := omega) only [go_sem, simprocAttr, inL, hS0]; first | done | omega | (congr 1; done))), ?_⟩); done)
  ·intro u hu
   have b1 := hnl u
   rcases Nat.lt_or_ge u N with hlt | hge
   ·have e1 := hS u
    repeat' first | refine Zad rfl ?_ | refine Zac ?_ | refine wR ?_ | (refine Zaa rfl rfl (fun hc => ?_) (fun hc => ?_) <;> try simp only [hcL] at hc) | (refine Zab _ rfl rfl (fun hc => ?_) (fun hc => ?_) <;> (try simp only [hcL] at hc) <;> try omega) | simp (disch := omega) only [go_sem, simprocAttr] | apply And.intro | omega | decide +kernel
    refine Zap (κ := Nat) (fun (b : Nat) => b ≤ N - 1 - u) (fun (b : Nat) => [(6, .int N), (7, .d (Zaj m)), (8, .int (S u + sm (fun j => Zao m u (u + 1 + j)) b)), (9, .int u), (10, .int (u + 1 + b : Nat))]) (fun (b : Nat) => []) (fun (b : Nat) => N - b) 0 ?_ ?_ ?_
    ·exact Nat.zero_le _
    ·have z0 : sm (fun j => Zao m u (u + 1 + j)) 0 = 0 := rfl
     have z1 : ((u + 1 + 0 : Nat) : Int) = (u : Int) + 1 := by omega
     exact eL [] _ _ (by refine ⟨?_, ?_⟩ <;> (repeat' first | exact fmn | refine fmc ⟨(by first | rfl | (simp (disch := omega) only [go_sem, simprocAttr, inL, z0, z1, Int.add_zero]; first | done | omega | (congr 1; done))), ?_⟩); done)
    ·intro b hb
     have b2 := hni u b
     rcases Nat.lt_or_ge b (N - 1 - u) with hlb | hgb
     ·obtain ⟨q, hq, hql, hqv, g1, g2⟩ := hs.get (b := u) (a := u + 1 + b) (by omega) (by omega)
      have e2 : sm (fun j => Zao m u (u + 1 + j)) (b + 1) = sm (fun j => Zao m u (u + 1 + j)) b + Zao m u (u + 1 + b) := rfl
      have e3 : ((u + 1 + b : Nat) : Int) + 1 = ((u + 1 + (b + 1) : Nat) : Int) := by omega
      have hqn : u + 1 + b < q.length := by omega
      generalize sm (fun j => Zao m u (u + 1 + j)) = SM at *
      generalize hub : u + 1 + b = ub at *
      repeat' first | refine Zad rfl ?_ | refine Zac ?_ | refine wR ?_ | (refine Zaa rfl rfl (fun hc => ?_) (fun hc => ?_) <;> try simp only [hcL] at hc) | (refine Zab _ rfl rfl (fun hc => ?_) (fun hc => ?_) <;> (try simp only [hcL] at hc) <;> try omega) | simp (disch := omega) only [go_sem, simprocAttr, hq, hqv, hqn, e3] | apply And.intro | omega | decide +kernel
      refine ⟨b + 1, ?_, eL [] _ _ (by refine ⟨?_, ?_⟩ <;> (repeat' first | exact fmn | refine fmc ⟨(by first | rfl | (simp (disch := omega) only [go_sem, simprocAttr, inL, e2, e3, hub, Int.add_assoc]; first | done | omega | (congr 1; done))), ?_⟩); done), ?_⟩
      ·omega
      ·omega
     ·have : b = N - 1 - u := by omega
      subst this
      have e4 : u + 1 + (N - 1 - u) = N := by omega
      rw [e4]
      repeat' first | refine Zad rfl ?_ | refine Zac ?_ | refine wR ?_ | (refine Zaa rfl rfl (fun hc => ?_) (fun hc => ?_) <;> try simp only [hcL] at hc) | (refine Zab _ rfl rfl (fun hc => ?_) (fun hc => ?_) <;> (try simp only [hcL] at hc) <;> try omega) | simp (disch := omega) only [go_sem, simprocAttr] | apply And.intro | omega | decide +kernel
      refine ⟨u + 1, ?_, eL [] _ _ (by refine ⟨?_, ?_⟩ <;> (repeat' first | exact fmn | refine fmc ⟨(by first | rfl | (simp (disch := omega) only [go_sem, simprocAttr, inL, e1]; first | done | omega | (congr 1; done))), ?_⟩); done), ?_⟩
      ·omega
      ·omega
   ·have : u = N := by omega
    subst this
    repeat' first | refine Zad rfl ?_ | refine Zac ?_ | refine wR ?_ | (refine rc (h3) rfl ?_ ?_; (· first | rfl | simp (disch := omega) only [go_sem, simprocAttr])) | (refine Zaa rfl rfl (fun hc => ?_) (fun hc => ?_) <;> try simp only [hcL] at hc) | (refine Zab _ rfl rfl (fun hc => ?_) (fun hc => ?_) <;> (try simp only [hcL] at hc) <;> try omega) | simp (disch := omega) only [go_sem, simprocAttr] | apply And.intro | omega | decide +kernel
    refine ⟨_, rfl, Zcd rfl, Zas ?_, trivial⟩
    rw [Bool.eq_iff_iff]
set_option maxHeartbeats 8000000 in
theorem rRefine_spec (a : Lv) (hw : wide a) (har : a.2.2.1.length ≤ 700) : Zah Tryz.prog 16 [lvD a] (lvD (if Zay a then Zck a else lv0)) := by
 have h1 := Zbw a hw
 rw [← valid_same] at h1
 rcases hv : Zay a with _ | _ <;> rw [hv] at h1
 ·rw [if_neg (by decide)]
  refine Zaf Tryz.func16 rfl (by decide +kernel) (Nat.le_of_ble_eq_true rfl) ?_
  intro hat B X w0
  repeat' first | refine Zad rfl ?_ | refine Zac ?_ | refine wR ?_ | (refine rc (h1) rfl ?_ ?_; (· first | rfl | simp (disch := omega) only [go_sem, simprocAttr])) | (refine Zaa rfl rfl (fun hc => ?_) (fun hc => ?_) <;> try simp only [hcL] at hc) | (refine Zab _ rfl rfl (fun hc => ?_) (fun hc => ?_) <;> (try simp only [hcL] at hc) <;> try omega) | simp (disch := omega) only [go_sem, simprocAttr] | apply And.intro | omega | decide +kernel
  refine ⟨_, _, _, _, rfl, ?_⟩
  simp (disch := omega) only [go_sem, simprocAttr, toD]
  rfl
 ·rw [if_pos rfl]
  obtain ⟨t1, t2⟩ := Zcq hv
  have h2 := with_none a hv
  have hK0 := Kin.refl hv hw
  have h3 : ∀ (b : Lv) (i : Nat), Kin a b → i < a.2.1.length → Zah Tryz.prog 35 [lvD b, .int i] (.tup [Zam (betF b i).1, .bool (betF b i).2]) := fun b i h hi => improved_spec b i h.wd h.ok (by rw [h.arcs]; exact har) (by rw [h.len]; exact hi)
  have hly : ∀ (b : Lv) (i : Nat), Kin a b → i < a.2.1.length → (lstN b.2.1 i).length ≤ 512 := fun b i h hi => by
   have hb2 := (Zcq h.ok).2
   have := Zbq (List.mem_of_getElem? (h.lay hi))
   omega
  have h4 : ∀ (b : Lv) (i : Nat), Kin a b → i < a.2.1.length → (betF b i).2 = true → Zah Tryz.prog 32 [Zak (lstN b.2.1 i), Zam (betF b i).1] (Zak (Zbl (lstN b.2.1 i) (Zbm (orM b i)).1)) := fun b i h hi hb => by
   have hy := betF_yes hb
   have e : (betF b i).1 = (Zbm (orM b i)).1 := by rw [betF, if_neg hy.1]
   rw [e]
   exact oplaces_spec _ _ (orM_part b i) (by have := hly b i h hi; omega)
  have h5 : ∀ (b : Lv) (i : Nat), Kin a b → i < a.2.1.length → Zah Tryz.prog 31 [lvD b, .int i, Zak (Zbl (lstN b.2.1 i) (Zbm (orM b i)).1)] (lvD (bestPut b i)) := fun b i h hi =>
   with_put b i _ h.ok (by rw [permL_len]; have := (orM_part b i).len; have := hly b i h hi; omega) (by rw [h.len]; exact hi)
  obtain ⟨M, hM⟩ : ∃ M, M = refMs a 0 := ⟨_, rfl⟩
  rw [Zck, ← hM]
  generalize hR : refN M a 0 = R
  obtain ⟨L, hL⟩ : ∃ L, L = a.2.1.length := ⟨_, rfl⟩
  rw [← hL] at h3 h4 h5 t1
  clear hly
  refine Zaf Tryz.func16 rfl (by decide +kernel) (Nat.le_of_ble_eq_true rfl) ?_
  intro hat B X w0
  repeat' first | refine Zad rfl ?_ | refine Zac ?_ | refine wR ?_ | (refine rc (h1) rfl ?_ ?_; (· first | rfl | simp (disch := omega) only [go_sem, simprocAttr, List.map_nil])) | (refine rc (h2) rfl ?_ ?_; (· first | rfl | simp (disch := omega) only [go_sem, simprocAttr, List.map_nil])) | (refine Zaa rfl rfl (fun hc => ?_) (fun hc => ?_) <;> try simp only [hcL] at hc) | (refine Zab _ rfl rfl (fun hc => ?_) (fun hc => ?_) <;> (try simp only [hcL] at hc) <;> try omega) | simp (disch := omega) only [go_sem, simprocAttr, List.map_nil] | apply And.intro | omega | decide +kernel
  refine Zap (κ := Nat × Lv × Nat) (fun (q : Nat × Lv × Nat) => match q with | (f, b, i) => Kin a b ∧ refMs b i ≤ f ∧ i ≤ L ∧ refN f b i = R) (fun (q : Nat × Lv × Nat) => match q with | (f, b, i) => [(2, .ptr 2 0 0 0), (3, .ptr 3 0 0 0), (4, .int i)]) (fun (q : Nat × Lv × Nat) => match q with | (f, b, i) => [(2, .cells [.int 0, .nilS, .nilS, .nilS]), (3, .cells [.int b.1, .d (Zaj b.2.1), .d (Zal b.2.2.1), .d (Zaj b.2.2.2)])]) (fun (q : Nat × Lv × Nat) => match q with | (f, b, i) => f) (M, a, 0) ?_ ?_ ?_
  ·exact ⟨hK0, Nat.le_of_eq hM.symm, Nat.zero_le _, hR⟩
  ·exact eL [] _ _ (by refine ⟨?_, ?_⟩ <;> (repeat' first | exact fmn | refine fmc ⟨(by first | rfl | (simp (disch := omega) only [go_sem, simprocAttr, inL]; first | done | omega | (congr 1; done))), ?_⟩); done)
  ·rintro ⟨f, b, i⟩ ⟨hK, hms, hi, hres⟩
   dsimp only at hK hms hi hres ⊢
   have hbl : b.2.1.length = L := by rw [hK.len, hL]
   rcases Nat.lt_or_ge i L with hlt | hge
   ·have hf : 0 < f := by
     have : refMs b i = (Zbg b).toNat * (b.2.1.length + 1) + (b.2.1.length - i) := rfl
     omega
    obtain ⟨f, rfl⟩ : ∃ g, f = g + 1 := ⟨f - 1, by omega⟩
    rw [refN, if_pos (by omega)] at hres
    have c1 := h3 b i hK hlt
    rcases hb : (betF b i).2 with _ | _
    ·rw [hb] at c1
     rw [hb, if_neg (by decide)] at hres
     have hs := ms_step (b := b) (i := i) (by omega)
     clear h3 h4 h5
     obtain ⟨n, ls, ar, cs⟩ := b
     dsimp only at hbl hb c1 ⊢
     repeat' first | refine Zad rfl ?_ | refine Zac ?_ | refine wR ?_ | (refine rc (c1) rfl ?_ ?_; (· first | rfl | simp (disch := omega) only [go_sem, simprocAttr, hbl])) | (refine Zaa rfl rfl (fun hc => ?_) (fun hc => ?_) <;> try simp only [hcL] at hc) | (refine Zab _ rfl rfl (fun hc => ?_) (fun hc => ?_) <;> (try simp only [hcL] at hc) <;> try omega) | simp (disch := omega) only [go_sem, simprocAttr, hbl] | apply And.intro | omega | decide +kernel
     refine ⟨(f, (n, ls, ar, cs), i + 1), ?_, eL [] _ _ (by refine ⟨?_, ?_⟩ <;> (repeat' first | exact fmn | refine fmc ⟨(by first | rfl | (simp (disch := omega) only [go_sem, simprocAttr, inL, Int.natCast_add, Int.natCast_one]; first | done | omega | (congr 1; done))), ?_⟩); done), ?_⟩
     ·exact ⟨hK, by dsimp only; omega, hlt, hres⟩
     ·exact Nat.lt_succ_self _
    ·have c2 := h4 b i hK hlt hb
     have c3 := h5 b i hK hlt
     have hg := hK.lay (k := i) (by omega)
     rw [hb] at c1
     rw [hb, if_pos rfl] at hres
     have hs := ms_put hK (by omega) (betF_yes hb).2
     have hK2 := bet_kin hK (i := i) (by omega)
     clear h3 h4 h5
     generalize bestPut b i = P at *
     generalize Zbl (lstN b.2.1 i) (Zbm (orM b i)).1 = py at *
     generalize lstN b.2.1 i = y at *
     obtain ⟨n, ls, ar, cs⟩ := b
     dsimp only at hbl hb c1 c2 c3 hg ⊢
     repeat' first | refine Zad rfl ?_ | refine Zac ?_ | refine wR ?_ | (refine rc (c1) rfl ?_ ?_; (· first | rfl | simp (disch := omega) only [go_sem, simprocAttr, hbl, hg])) | (refine rc (c2) rfl ?_ ?_; (· first | rfl | simp (disch := omega) only [go_sem, simprocAttr, hbl, hg])) | (refine rc (c3) rfl ?_ ?_; (· first | rfl | simp (disch := omega) only [go_sem, simprocAttr, hbl, hg])) | (refine Zaa rfl rfl (fun hc => ?_) (fun hc => ?_) <;> try simp only [hcL] at hc) | (refine Zab _ rfl rfl (fun hc => ?_) (fun hc => ?_) <;> (try simp only [hcL] at hc) <;> try omega) | simp (disch := omega) only [go_sem, simprocAttr, hbl, hg] | apply And.intro | omega | decide +kernel
     refine ⟨(f, P, 0), ?_, eL [] _ _ (by refine ⟨?_, ?_⟩ <;> (repeat' first | exact fmn | refine fmc ⟨(by first | rfl | (simp (disch := omega) only [go_sem, simprocAttr, inL]; first | done | omega | (congr 1; done))), ?_⟩); done), ?_⟩
     ·exact ⟨hK2, by dsimp only; omega, Nat.zero_le _, hres⟩
     ·exact Nat.lt_succ_self _
   ·rw [refN_end (by omega)] at hres
    subst hres
    obtain ⟨n, ls, ar, cs⟩ := b
    dsimp only at hbl ⊢
    repeat' first | refine Zad rfl ?_ | refine Zac ?_ | refine wR ?_ | (refine Zaa rfl rfl (fun hc => ?_) (fun hc => ?_) <;> try simp only [hcL] at hc) | (refine Zab _ rfl rfl (fun hc => ?_) (fun hc => ?_) <;> (try simp only [hcL] at hc) <;> try omega) | simp (disch := omega) only [go_sem, simprocAttr, hbl] | apply And.intro | omega | decide +kernel
    refine ⟨_, _, _, _, rfl, ?_⟩
    simp (disch := omega) only [go_sem, simprocAttr, toD]
set_option maxHeartbeats 8000000 in
theorem roRun_spec (a : Lv) (r : Int) (hw : wide a) (har : a.2.2.1.length ≤ 700) : Zah Tryz.prog 18 [lvD a, .int r] (.tup [lvD (ornF a r).1, .int (ornF a r).2.1, .int (ornF a r).2.2]) := by
 have h1 := Zbw a hw
 rw [← valid_same] at h1
 rw [ornF]
 by_cases hall : Zay a = true ∧ 0 ≤ r ∧ r ≤ 100
 ·rw [if_pos hall]
  obtain ⟨hv, hr0, hr1⟩ := hall
  rw [hv] at h1
  obtain ⟨t1, t2⟩ := Zcq hv
  have hb := rRunB_spec a r hw har
  have hrr : rndB r = r.toNat := by rw [rndB]; omega
  rw [brnF, if_pos hv, hrr] at hb
  have hK := bstB_kin hv hw r.toNat
  have h3 := rRefine_spec (bstB a r.toNat) hK.wd (by rw [hK.arcs]; exact har)
  rw [if_pos hK.ok] at h3
  have hK2 := (refine_ok hK.ok hK.wd).1
  have h4 := rTotal_spec (Zck (bstB a r.toNat)) hK2.wd (by rw [hK2.len, hK.len]; omega)
  rw [← total_same] at h4
  dsimp only at hb ⊢
  generalize Zck (bstB a r.toNat) = Q at *
  generalize bstB a r.toNat = P at *
  generalize Zbg P = tp at *
  generalize Zbg Q = tq at *
  clear hK hK2
  obtain ⟨n1, ls1, ar1, cs1⟩ := Q
  obtain ⟨n2, ls2, ar2, cs2⟩ := P
  refine Zaf Tryz.func18 rfl (by decide +kernel) (Nat.le_of_ble_eq_true rfl) ?_
  intro hat B X w0
  repeat' first | refine Zad rfl ?_ | refine Zac ?_ | refine wR ?_ | (refine rc (h1) rfl ?_ ?_; (· first | rfl | simp (disch := omega) only [go_sem, simprocAttr, List.append_eq])) | (refine rc (hb) rfl ?_ ?_; (· first | rfl | simp (disch := omega) only [go_sem, simprocAttr, List.append_eq])) | (refine rc (h3) rfl ?_ ?_; (· first | rfl | simp (disch := omega) only [go_sem, simprocAttr, List.append_eq])) | (refine rc (h4) rfl ?_ ?_; (· first | rfl | simp (disch := omega) only [go_sem, simprocAttr, List.append_eq])) | (refine Zaa rfl rfl (fun hc => ?_) (fun hc => ?_) <;> try simp only [hcL] at hc) | (refine Zab _ rfl rfl (fun hc => ?_) (fun hc => ?_) <;> (try simp only [hcL] at hc) <;> try omega) | simp (disch := omega) only [go_sem, simprocAttr, List.append_eq] | apply And.intro | omega | decide +kernel
  refine ⟨_, rfl, ⟨_, _, _, _, rfl, ?_⟩, Zar rfl, Zar rfl, trivial⟩
  simp (disch := omega) only [go_sem, simprocAttr, toD]
 ·rw [if_neg hall]
  rcases hv : Zay a with _ | _ <;> rw [hv] at h1
  ·refine Zaf Tryz.func18 rfl (by decide +kernel) (Nat.le_of_ble_eq_true rfl) ?_
   intro hat B X w0
   repeat' first | refine Zad rfl ?_ | refine Zac ?_ | refine wR ?_ | (refine rc (h1) rfl ?_ ?_; (· first | rfl | simp (disch := omega) only [go_sem, simprocAttr, List.append_eq])) | (refine Zaa rfl rfl (fun hc => ?_) (fun hc => ?_) <;> try simp only [hcL] at hc) | (refine Zab _ rfl rfl (fun hc => ?_) (fun hc => ?_) <;> (try simp only [hcL] at hc) <;> try omega) | simp (disch := omega) only [go_sem, simprocAttr, List.append_eq] | apply And.intro | omega | decide +kernel
   refine ⟨_, rfl, ⟨_, _, _, _, rfl, ?_⟩, Zar rfl, Zar rfl, trivial⟩
   simp (disch := omega) only [go_sem, simprocAttr, toD]
   rfl
  ·have hn : ¬ (0 ≤ r ∧ r ≤ 100) := fun h => hall ⟨hv, h⟩
   refine Zaf Tryz.func18 rfl (by decide +kernel) (Nat.le_of_ble_eq_true rfl) ?_
   intro hat B X w0
   repeat' first | refine Zad rfl ?_ | refine Zac ?_ | refine wR ?_ | (refine rc (h1) rfl ?_ ?_; (· first | rfl | simp (disch := omega) only [go_sem, simprocAttr, List.append_eq])) | (refine Zaa rfl rfl (fun hc => ?_) (fun hc => ?_) <;> try simp only [hcL] at hc) | (refine Zab _ rfl rfl (fun hc => ?_) (fun hc => ?_) <;> (try simp only [hcL] at hc) <;> try omega) | simp (disch := omega) only [go_sem, simprocAttr, List.append_eq] | apply And.intro | omega | decide +kernel
   all_goals
    refine ⟨_, rfl, ⟨_, _, _, _, rfl, ?_⟩, Zar rfl, Zar rfl, trivial⟩
    simp (disch := omega) only [go_sem, simprocAttr, toD]
    rfl
end Go.Proofs.YtldbcbclhpcofaaGreat
namespace Go.Proofs.YtldbcbclhpcofaaGreat
open Go Go.PS Go.Proofs
set_option maxRecDepth 100000
attribute [local irreducible] Zax wpG Zah Zai

set_option maxHeartbeats 4000000 in
theorem bRun0_spec (a : Lv) (hw : wide a) (hv : Zay a = true) : Zah Tryz.prog 37 [lvD a, .int 0] (.tup [lvD a, .int (Zbg a)]) := by
 have h1 := Zbx a hw
 rw [hv] at h1
 obtain ⟨t1, t2⟩ := Zcq hv
 have h2 := copied_spec a hv
 have h3 := Total_spec a hw (by omega)
 generalize Zbg a = t at *
 obtain ⟨n, ls, ar, cs⟩ := a
 dsimp only at *
 refine Zaf Tryz.func37 rfl (by decide +kernel) (Nat.le_of_ble_eq_true rfl) ?_
 intro hat B X w0
 repeat' first | refine Zad rfl ?_ | refine Zac ?_ | refine wR ?_ | (refine rc (h1) rfl ?_ ?_; (· first | rfl | simp (disch := omega) only [go_sem, simprocAttr])) | (refine rc (h2) rfl ?_ ?_; (· first | rfl | simp (disch := omega) only [go_sem, simprocAttr])) | (refine rc (h3) rfl ?_ ?_; (· first | rfl | simp (disch := omega) only [go_sem, simprocAttr])) | (refine Zaa rfl rfl (fun hc => ?_) (fun hc => ?_) <;> try simp only [hcL] at hc) | (refine Zab _ rfl rfl (fun hc => ?_) (fun hc => ?_) <;> (try simp only [hcL] at hc) <;> try omega) | simp (disch := omega) only [go_sem, simprocAttr] | apply And.intro | omega | decide +kernel
 refine Zap (κ := Nat) (fun (k : Nat) => k = 0) (fun (k : Nat) => [(4, .ptr 4 0 0 0), (6, .ptr 6 0 0 0), (7, .int t), (20, .int 0), (21, .int k)]) (fun (k : Nat) => [(4, .cells [.int 0, .nilS, .nilS, .nilS]), (6, .cells [.int n, .d (Zaj ls), .d (Zal ar), .d (Zaj cs)])]) (fun (k : Nat) => 0) 0 ?_ ?_ ?_
 ·rfl
 ·exact eL [] _ _ (by refine ⟨?_, ?_⟩ <;> (repeat' first | exact fmn | refine fmc ⟨(by first | rfl | (simp (disch := omega) only [go_sem, simprocAttr, inL]; first | done | omega | (congr 1; done))), ?_⟩); done)
 ·rintro k rfl
  repeat' first | refine Zad rfl ?_ | refine Zac ?_ | refine wR ?_ | (refine Zaa rfl rfl (fun hc => ?_) (fun hc => ?_) <;> try simp only [hcL] at hc) | (refine Zab _ rfl rfl (fun hc => ?_) (fun hc => ?_) <;> (try simp only [hcL] at hc) <;> try omega) | simp (disch := omega) only [go_sem, simprocAttr] | apply And.intro | omega | decide +kernel
  refine ⟨_, rfl, ⟨_, _, _, _, rfl, ?_⟩, Zar rfl, trivial⟩
  simp (disch := omega) only [go_sem, simprocAttr, toD]
set_option maxHeartbeats 4000000 in
theorem oRun0_spec (a : Lv) (hw : wide a) (hv : Zay a = true) (har : a.2.2.1.length ≤ 700) : Zah Tryz.prog 17 [lvD a, .int 0] (.tup [lvD (Zck a), .int (Zbg (Zck a)), .int 0]) := by
 have h1 := Zbx a hw
 rw [hv] at h1
 obtain ⟨t1, t2⟩ := Zcq hv
 have hb := bRun0_spec a hw hv
 have h3 := Refine_spec a hw har
 rw [if_pos hv] at h3
 have hK2 := (refine_ok hv hw).1
 have h4 := Total_spec (Zck a) hK2.wd (by rw [hK2.len]; omega)
 generalize Zck a = Q at *
 generalize Zbg a = tp at *
 generalize Zbg Q = tq at *
 clear hK2
 obtain ⟨n1, ls1, ar1, cs1⟩ := Q
 obtain ⟨n, ls, ar, cs⟩ := a
 dsimp only at *
 refine Zaf Tryz.func17 rfl (by decide +kernel) (Nat.le_of_ble_eq_true rfl) ?_
 intro hat B X w0
 repeat' first | refine Zad rfl ?_ | refine Zac ?_ | refine wR ?_ | (refine rc (h1) rfl ?_ ?_; (· first | rfl | simp (disch := omega) only [go_sem, simprocAttr, List.append_eq])) | (refine rc (hb) rfl ?_ ?_; (· first | rfl | simp (disch := omega) only [go_sem, simprocAttr, List.append_eq])) | (refine rc (h3) rfl ?_ ?_; (· first | rfl | simp (disch := omega) only [go_sem, simprocAttr, List.append_eq])) | (refine rc (h4) rfl ?_ ?_; (· first | rfl | simp (disch := omega) only [go_sem, simprocAttr, List.append_eq])) | (refine Zaa rfl rfl (fun hc => ?_) (fun hc => ?_) <;> try simp only [hcL] at hc) | (refine Zab _ rfl rfl (fun hc => ?_) (fun hc => ?_) <;> (try simp only [hcL] at hc) <;> try omega) | simp (disch := omega) only [go_sem, simprocAttr, List.append_eq] | apply And.intro | omega | decide +kernel
 refine ⟨_, rfl, ⟨_, _, _, _, rfl, ?_⟩, Zar rfl, Zar rfl, trivial⟩
 simp (disch := omega) only [go_sem, simprocAttr, toD]
theorem oRunN_spec (a : Lv) (hw : wide a) (hv : Zay a = true) : Zah Tryz.prog 17 [lvD a, .int (-1)] (.tup [lvD lv0, .int 0, .int 1]) := by
 have h1 := Zbx a hw
 rw [hv] at h1
 refine Zaf Tryz.func17 rfl (by decide +kernel) (Nat.le_of_ble_eq_true rfl) ?_
 intro hat B X w0
 repeat' first | refine Zad rfl ?_ | refine Zac ?_ | refine wR ?_ | (refine rc (h1) rfl ?_ ?_; (· first | rfl | simp (disch := omega) only [go_sem, simprocAttr, List.append_eq])) | (refine Zaa rfl rfl (fun hc => ?_) (fun hc => ?_) <;> try simp only [hcL] at hc) | (refine Zab _ rfl rfl (fun hc => ?_) (fun hc => ?_) <;> (try simp only [hcL] at hc) <;> try omega) | simp (disch := omega) only [go_sem, simprocAttr, List.append_eq] | apply And.intro | omega | decide +kernel
 refine ⟨_, rfl, ⟨_, _, _, _, rfl, ?_⟩, Zar rfl, Zar rfl, trivial⟩
 simp (disch := omega) only [go_sem, simprocAttr, toD]
 rfl
end Go.Proofs.YtldbcbclhpcofaaGreat
namespace Go.Proofs.YtldbcbclhpcofaaGreat
open Go Go.PS Go.Proofs
open Go.Bd (sm sumC Part)
set_option maxRecDepth 100000
attribute [local irreducible] Zax wpG Zah Zai

def badO (y : List Int) : Bool := decide (y.length = 7 ∨ y.length = 8 ∨ 20 < y.length)
def longO (y : List Int) : Bool := decide (20 < y.length)
def fewO (a : Lv) : Bool := decide (a.2.1.length ≤ 12 ∧ a.2.2.1.length ≤ 60 ∧ a.2.2.2.length ≤ 60) && !a.2.1.any badO && !a.2.2.2.any longO
set_option maxHeartbeats 4000000 in
theorem fewO_spec (a : Lv) (hw : wide a) : Zah Tryz.prog 8 [lvD a] (.bool (fewO a)) := by
 rw [fewO]
 have hyw : ∀ (k : Nat) y, a.2.1[k]? = some y → y.length * 8 ≤ 140737488351232 := fun k y h => hw y (List.mem_of_getElem? h)
 obtain ⟨n, ls, ar, cs⟩ := a
 dsimp only at hyw ⊢
 refine Zaf Tryz.func8 rfl (by decide +kernel) (Nat.le_of_ble_eq_true rfl) ?_
 intro hat B X w0
 have h1 := Zbt 0 1 hat rfl rfl
 have h2 := Zbt 0 2 hat rfl rfl
 have h3 := Zbt 0 3 hat rfl rfl
 rw [List.length_map] at h1 h2 h3
 dsimp only at h1 h2 h3
 by_cases c : ls.length ≤ 12 ∧ ar.length ≤ 60 ∧ cs.length ≤ 60
 ·obtain ⟨c1, c2, c3⟩ := c
  rw [decide_eq_true ⟨c1, c2, c3⟩, Bool.true_and]
  repeat' first | refine Zad rfl ?_ | refine Zac ?_ | refine wR ?_ | (refine Zaa rfl rfl (fun hc => ?_) (fun hc => ?_) <;> try simp only [hcL] at hc) | (refine Zab _ rfl rfl (fun hc => ?_) (fun hc => ?_) <;> (try simp only [hcL] at hc) <;> try omega) | simp (disch := omega) only [go_sem, simprocAttr, List.append_eq] | apply And.intro | omega | decide +kernel
  refine Zap (κ := Nat) (fun (k : Nat) => k ≤ ls.length ∧ ∀ (q : Nat) y, q < k → ls[q]? = some y → badO y = false) (fun (k : Nat) => [(1, .ptr 1 0 0 0), (3, .int k)]) (fun (k : Nat) => [(1, .cells [.int n, .d (Zaj ls), .d (Zal ar), .d (Zaj cs)])]) (fun (k : Nat) => ls.length - k) 0 ?_ ?_ ?_
  ·exact ⟨Nat.zero_le _, fun q y hq => by omega⟩
  ·exact eL [] _ _ (by refine ⟨?_, ?_⟩ <;> (repeat' first | exact fmn | refine fmc ⟨(by first | rfl | (simp (disch := omega) only [go_sem, simprocAttr, inL]; first | done | omega | (congr 1; done))), ?_⟩); done)
  ·rintro k ⟨hk, hinv⟩
   rcases Nat.lt_or_ge k ls.length with hlt | hge
   ·obtain ⟨y, hy⟩ := Zan hlt
    have hyl := hyw k y hy
    by_cases cb : y.length = 7 ∨ y.length = 8 ∨ 20 < y.length
    ·rw [any_at hy (by rw [badO, decide_eq_true cb])]
     repeat' first | refine Zad rfl ?_ | refine Zac ?_ | refine wR ?_ | (refine Zaa rfl rfl (fun hc => ?_) (fun hc => ?_) <;> try simp only [hcL] at hc) | (refine Zab _ rfl rfl (fun hc => ?_) (fun hc => ?_) <;> (try simp only [hcL] at hc) <;> try omega) | simp (disch := omega) only [go_sem, simprocAttr, hy] | apply And.intro | omega | decide +kernel
     all_goals exact Zas rfl
    ·repeat' first | refine Zad rfl ?_ | refine Zac ?_ | refine wR ?_ | (refine Zaa rfl rfl (fun hc => ?_) (fun hc => ?_) <;> try simp only [hcL] at hc) | (refine Zab _ rfl rfl (fun hc => ?_) (fun hc => ?_) <;> (try simp only [hcL] at hc) <;> try omega) | simp (disch := omega) only [go_sem, simprocAttr, hy] | apply And.intro | omega | decide +kernel
     refine ⟨k + 1, ?_, eL [] _ _ (by refine ⟨?_, ?_⟩ <;> (repeat' first | exact fmn | refine fmc ⟨(by first | rfl | (simp (disch := omega) only [go_sem, simprocAttr, inL]; first | done | omega | (congr 1; done))), ?_⟩); done), ?_⟩
     ·exact ⟨by omega, Zbr hinv hy (by rw [badO, decide_eq_false cb])⟩
     ·omega
   ·have : k = ls.length := by omega
    subst this
    rw [any_no (q := badO) (l := ls) fun j y hj hy => hinv j y hj hy]
    repeat' first | refine Zad rfl ?_ | refine Zac ?_ | refine wR ?_ | (refine Zaa rfl rfl (fun hc => ?_) (fun hc => ?_) <;> try simp only [hcL] at hc) | (refine Zab _ rfl rfl (fun hc => ?_) (fun hc => ?_) <;> (try simp only [hcL] at hc) <;> try omega) | simp (disch := omega) only [go_sem, simprocAttr] | apply And.intro | omega | decide +kernel
    refine Zap (κ := Nat) (fun (k : Nat) => k ≤ cs.length ∧ ∀ (q : Nat) y, q < k → cs[q]? = some y → longO y = false) (fun (k : Nat) => [(1, .ptr 1 0 0 0), (5, .int k)]) (fun (k : Nat) => [(1, .cells [.int n, .d (Zaj ls), .d (Zal ar), .d (Zaj cs)])]) (fun (k : Nat) => cs.length - k) 0 ?_ ?_ ?_
    ·exact ⟨Nat.zero_le _, fun q y hq => by omega⟩
    ·exact eL [] _ _ (by refine ⟨?_, ?_⟩ <;> (repeat' first | exact fmn | refine fmc ⟨(by first | rfl | (simp (disch := omega) only [go_sem, simprocAttr, inL]; first | done | omega | (congr 1; done))), ?_⟩); done)
    ·rintro k ⟨hk, hinv⟩
     rcases Nat.lt_or_ge k cs.length with hlt | hge
     ·obtain ⟨y, hy⟩ := Zan hlt
      by_cases cb : 20 < y.length
      ·rw [any_at hy (by rw [longO, decide_eq_true cb])]
       repeat' first | refine Zad rfl ?_ | refine Zac ?_ | refine wR ?_ | (refine Zaa rfl rfl (fun hc => ?_) (fun hc => ?_) <;> try simp only [hcL] at hc) | (refine Zab _ rfl rfl (fun hc => ?_) (fun hc => ?_) <;> (try simp only [hcL] at hc) <;> try omega) | simp (disch := omega) only [go_sem, simprocAttr, hy, cb] | apply And.intro | omega | decide +kernel
       exact Zas rfl
      ·repeat' first | refine Zad rfl ?_ | refine Zac ?_ | refine wR ?_ | (refine Zaa rfl rfl (fun hc => ?_) (fun hc => ?_) <;> try simp only [hcL] at hc) | (refine Zab _ rfl rfl (fun hc => ?_) (fun hc => ?_) <;> (try simp only [hcL] at hc) <;> try omega) | simp (disch := omega) only [go_sem, simprocAttr, hy, cb] | apply And.intro | omega | decide +kernel
       refine ⟨k + 1, ?_, eL [] _ _ (by refine ⟨?_, ?_⟩ <;> (repeat' first | exact fmn | refine fmc ⟨(by first | rfl | (simp (disch := omega) only [go_sem, simprocAttr, inL]; first | done | omega | (congr 1; done))), ?_⟩); done), ?_⟩
       ·exact ⟨by omega, Zbr hinv hy (by rw [longO, decide_eq_false cb])⟩
       ·omega
     ·have : k = cs.length := by omega
      subst this
      rw [any_no (q := longO) (l := cs) fun j y hj hy => hinv j y hj hy]
      repeat' first | refine Zad rfl ?_ | refine Zac ?_ | refine wR ?_ | (refine Zaa rfl rfl (fun hc => ?_) (fun hc => ?_) <;> try simp only [hcL] at hc) | (refine Zab _ rfl rfl (fun hc => ?_) (fun hc => ?_) <;> (try simp only [hcL] at hc) <;> try omega) | simp (disch := omega) only [go_sem, simprocAttr] | apply And.intro | omega | decide +kernel
      exact Zas rfl
 ·rw [decide_eq_false c]
  repeat' first | refine Zad rfl ?_ | refine Zac ?_ | refine wR ?_ | (refine Zaa rfl rfl (fun hc => ?_) (fun hc => ?_) <;> try simp only [hcL] at hc) | (refine Zab _ rfl rfl (fun hc => ?_) (fun hc => ?_) <;> (try simp only [hcL] at hc) <;> try omega) | simp (disch := omega) only [go_sem, simprocAttr, List.append_eq] | apply And.intro | omega | decide +kernel
  all_goals exact Zas rfl
theorem fewO_in {a : Lv} (h : fewO a = true) : a.2.1.length ≤ 12 ∧ a.2.2.1.length ≤ 60 ∧ a.2.2.2.length ≤ 60 := by
 simp only [fewO, Bool.and_eq_true, decide_eq_true_eq] at h
 exact h.1.1
/-! The chapter's example. -/
def exL : Lv := (6, [[0, 1, 2], [3, 4, 5]], [(0, 5), (1, 4), (2, 3)], [[0, 5], [1, 4], [2, 3]])
def exB : Lv := (6, [[2, 1, 0], [3, 4, 5]], [(0, 5), (1, 4), (2, 3)], [[0, 5], [1, 4], [2, 3]])
theorem exL_valid : Zay exL = true := by
 simp only [Zay, sortLv, exL, List.map_cons, List.map_nil, ← insN_eq]
 decide +kernel
theorem exB_valid : Zay exB = true := by
 simp only [Zay, sortLv, exB, List.map_cons, List.map_nil, ← insN_eq]
 decide +kernel
def exM1 : List (List Int) := [[0, 1, 1], [0, 0, 1], [0, 0, 0]]
def exM2 : List (List Int) := [[0, 0, 0], [1, 0, 0], [1, 1, 0]]
theorem ex_m1 : Zau exL 0 1 = exM1 := by simp only [Zau, matOk, exL_valid]; decide +kernel
theorem ex_m2 : Zau exL 0 (-1) = [] := by simp only [Zau, matOk, exL_valid]; decide +kernel
theorem ex_m3 : Zau exB 0 1 = exM2 := by simp only [Zau, matOk, exB_valid]; decide +kernel
theorem ex_m4 : Zau exB 0 (-1) = [] := by simp only [Zau, matOk, exB_valid]; decide +kernel
theorem ex_m5 : Zau exB 1 0 = exM2 := by simp only [Zau, matOk, exB_valid]; decide +kernel
theorem ex_m6 : Zau exB 1 2 = [] := by simp only [Zau, matOk, exB_valid]; decide +kernel
theorem ex_t1 : Zbg exL = 3 := by simp only [Zbg, Zbk, Zau, matOk, exL_valid]; decide +kernel
theorem ex_t2 : Zbg exB = 0 := by simp only [Zbg, Zbk, Zau, matOk, exB_valid]; decide +kernel
theorem orM_of {a : Lv} {i : Nat} {y : List Int} {p q : List (List Int)} (hy : lstN a.2.1 i = y) (hp : Zau a i ((i : Int) - 1) = p) (hq : Zau a i ((i : Int) + 1) = q) :
  orM a i = sqM (fun u v => 0 + Zao p u v + Zao q u v) y.length := by
 have h : accC a [] y 0 i 2 = fun u v => 0 + Zao p u v + Zao q u v := by
  funext u v
  have e := accC_zero a i u v
  rw [hy] at e
  show accC a [] y 0 i 0 u v + Zao (Zau a i ((i : Int) - 1)) u v + Zao (Zau a i ((i : Int) + 1)) u v = _
  rw [e, hp, hq]
 rw [orM, stM, hy, h]
theorem ex_o1 : orM exL 0 = sqM (fun u v => 0 + Zao [] u v + Zao exM1 u v) 3 := orM_of (y := [0, 1, 2]) rfl ex_m2 ex_m1
theorem ex_o2 : orM exB 0 = sqM (fun u v => 0 + Zao [] u v + Zao exM2 u v) 3 := orM_of (y := [2, 1, 0]) rfl ex_m4 ex_m3
theorem ex_o3 : orM exB 1 = sqM (fun u v => 0 + Zao exM2 u v + Zao [] u v) 3 := orM_of (y := [3, 4, 5]) rfl ex_m5 ex_m6
theorem ex_b1 : betB exL 0 = true := by rw [betB, ex_o1]; decide +kernel
theorem ex_b2 : betB exB 0 = false := by rw [betB, ex_o2]; decide +kernel
theorem ex_b3 : betB exB 1 = false := by rw [betB, ex_o3]; decide +kernel
theorem ex_f1 : (betF exL 0).2 = true := by rw [betF, if_neg (by decide)]; exact ex_b1
theorem ex_f2 : (betF exB 0).2 = false := by rw [betF, if_neg (by decide)]; exact ex_b2
theorem ex_f3 : (betF exB 1).2 = false := by rw [betF, if_neg (by decide)]; exact ex_b3
theorem ex_p1 : bestPut exL 0 = exB := by rw [bestPut, ex_o1]; decide +kernel
theorem ex_r1 : Zck exL = exB := by
 have hm : refMs exL 0 = 11 := by rw [refMs, ex_t1]; rfl
 rw [Zck, hm, refN, if_pos (by decide), if_pos ex_f1, ex_p1, refN, if_pos (by decide), if_neg (by rw [ex_f2]; decide), refN, if_pos (by decide), if_neg (by rw [ex_f3]; decide), refN, if_neg (by decide)]
theorem ex_e1 : exaF exL 0 1 = (exB, 0) := by
 have hm : matOk exL 0 1 = true := by simp only [matOk, exL_valid]; decide
 rw [exaF, if_neg (by rw [hm]; decide), if_neg (by decide), ex_m1]
 decide +kernel
theorem ex_q1 : optF exL 0 = false := by
 rw [optF, exL_valid]
 show (true && _ && _ && !betB exL 0) = false
 rw [ex_b1]; simp
theorem ex_q2 : optF exB 0 = true := by
 rw [optF, exB_valid]
 show (true && decide ((0 : Int) ≤ 0 ∧ (0 : Int) < exB.2.1.length) && decide (¬ 8 < (lstN exB.2.1 0).length) && !betB exB 0) = true
 rw [ex_b2]; decide
theorem wide_ex : wide exL ∧ wide exB := by
 constructor <;>
 ·intro y hy
  simp only [exL, exB, List.mem_cons, List.not_mem_nil, or_false] at hy
  rcases hy with rfl | rfl <;> decide
theorem ex_same : sameLv exB exB = true := by decide +kernel
set_option maxHeartbeats 4000000 in
theorem oAwake_spec : Zah Tryz.prog 9 [] (.bool true) := by
 have h1 := Exact_spec exL 0 1 wide_ex.1
 rw [ex_e1] at h1
 have h2 := Refine_spec exL wide_ex.1 (by decide)
 rw [if_pos exL_valid, ex_r1] at h2
 have h3 := oRun0_spec exL wide_ex.1 exL_valid (by decide)
 rw [ex_r1, ex_t2] at h3
 have h4 := oRunN_spec exL wide_ex.1 exL_valid
 have h5 := rSame_spec exB exB
 rw [ex_same] at h5
 have h6 := Optimal_spec exL 0 wide_ex.1 (by decide)
 rw [ex_q1] at h6
 have h7 := Optimal_spec exB 0 wide_ex.2 (by decide)
 rw [ex_q2] at h7
 simp only [exL, exB, lv0, List.map_cons, List.map_nil] at h1 h2 h3 h4 h5 h6 h7
 refine Zaf Tryz.func9 rfl (by decide +kernel) (Nat.le_of_ble_eq_true rfl) ?_
 intro hat B X w0
 repeat' first | refine Zad rfl ?_ | refine Zac ?_ | refine wR ?_ | (refine rc (h1) rfl ?_ ?_; (· first | rfl | simp (disch := omega) only [go_sem, simprocAttr, List.append_eq, List.map_cons, List.map_nil])) | (refine rc (h2) rfl ?_ ?_; (· first | rfl | simp (disch := omega) only [go_sem, simprocAttr, List.append_eq, List.map_cons, List.map_nil])) | (refine rc (h3) rfl ?_ ?_; (· first | rfl | simp (disch := omega) only [go_sem, simprocAttr, List.append_eq, List.map_cons, List.map_nil])) | (refine rc (h4) rfl ?_ ?_; (· first | rfl | simp (disch := omega) only [go_sem, simprocAttr, List.append_eq, List.map_cons, List.map_nil])) | (refine rc (h5) rfl ?_ ?_; (· first | rfl | simp (disch := omega) only [go_sem, simprocAttr, List.append_eq, List.map_cons, List.map_nil])) | (refine rc (h6) rfl ?_ ?_; (· first | rfl | simp (disch := omega) only [go_sem, simprocAttr, List.append_eq, List.map_cons, List.map_nil])) | (refine rc (h7) rfl ?_ ?_; (· first | rfl | simp (disch := omega) only [go_sem, simprocAttr, List.append_eq, List.map_cons, List.map_nil])) | (refine Zaa rfl rfl (fun hc => ?_) (fun hc => ?_) <;> try simp only [hcL] at hc) | (refine Zab _ rfl rfl (fun hc => ?_) (fun hc => ?_) <;> (try simp only [hcL] at hc) <;> try omega) | simp (disch := omega) only [go_sem, simprocAttr, List.append_eq, List.map_cons, List.map_nil] | apply And.intro | omega | decide +kernel
 exact Zas rfl
theorem same_self (a : Lv) : sameLv a a = true := by
 simp [sameLv]
set_option maxHeartbeats 4000000 in
theorem lawRuns (a : Lv) (r : Int) (hw : wide a) : Zah Tryz.prog 5 [lvD a, .int r] (.bool true) := by
 have h9 := oAwake_spec
 have h1 := fewO_spec a hw
 rcases hf : fewO a with _ | _ <;> rw [hf] at h1
 ·refine Zaf Tryz.func5 rfl (by decide +kernel) (Nat.le_of_ble_eq_true rfl) ?_
  intro hat B X w0
  repeat' first | refine Zad rfl ?_ | refine Zac ?_ | refine wR ?_ | (refine rc (h1) rfl ?_ ?_; (· first | rfl | simp (disch := omega) only [go_sem, simprocAttr, List.append_eq])) | (refine rc (h9) rfl ?_ ?_; (· first | rfl | simp (disch := omega) only [go_sem, simprocAttr, List.append_eq])) | (refine Zaa rfl rfl (fun hc => ?_) (fun hc => ?_) <;> try simp only [hcL] at hc) | (refine Zab _ rfl rfl (fun hc => ?_) (fun hc => ?_) <;> (try simp only [hcL] at hc) <;> try omega) | simp (disch := omega) only [go_sem, simprocAttr, List.append_eq] | apply And.intro | omega | decide +kernel
  exact Zas rfl
 ·obtain ⟨f1, f2, f3⟩ := fewO_in hf
  have h2 := oRun_spec a r hw (by omega)
  have h3 := roRun_spec a r hw (by omega)
  have h6 := rSame_spec (ornF a r).1 (ornF a r).1
  rw [same_self] at h6
  generalize ornF a r = E at *
  obtain ⟨⟨n', ls', ar', cs'⟩, t, e⟩ := E
  dsimp only at *
  refine Zaf Tryz.func5 rfl (by decide +kernel) (Nat.le_of_ble_eq_true rfl) ?_
  intro hat B X w0
  repeat' first | refine Zad rfl ?_ | refine Zac ?_ | refine wR ?_ | (refine rc (h1) rfl ?_ ?_; (· first | rfl | simp (disch := omega) only [go_sem, simprocAttr, List.append_eq])) | (refine rc (h2) rfl ?_ ?_; (· first | rfl | simp (disch := omega) only [go_sem, simprocAttr, List.append_eq])) | (refine rc (h3) rfl ?_ ?_; (· first | rfl | simp (disch := omega) only [go_sem, simprocAttr, List.append_eq])) | (refine rc (h6) rfl ?_ ?_; (· first | rfl | simp (disch := omega) only [go_sem, simprocAttr, List.append_eq])) | (refine rc (h9) rfl ?_ ?_; (· first | rfl | simp (disch := omega) only [go_sem, simprocAttr, List.append_eq])) | (refine Zaa rfl rfl (fun hc => ?_) (fun hc => ?_) <;> try simp only [hcL] at hc) | (refine Zab _ rfl rfl (fun hc => ?_) (fun hc => ?_) <;> (try simp only [hcL] at hc) <;> try omega) | simp (disch := omega) only [go_sem, simprocAttr, List.append_eq] | apply And.intro | omega | decide +kernel
  all_goals exact Zas rfl
end Go.Proofs.YtldbcbclhpcofaaGreat
