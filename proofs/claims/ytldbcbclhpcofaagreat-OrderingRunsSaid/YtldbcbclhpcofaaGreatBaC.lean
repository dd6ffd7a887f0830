/- Barycenters: the places of a vertex's neighbors, by the program and by the reference. -/
import Derived.Test.YtldbcbclhpcofaaGreatBaS5
set_option linter.unusedSimpArgs false
set_option linter.unusedVariables false
namespace Go.Proofs.YtldbcbclhpcofaaGreat
open Go Go.PS Go.Proofs
open Go.Stb
set_option maxRecDepth 100000
attribute [local irreducible] Zax wpG Zah Zai

theorem valid_range {a : Lv} (h : Zay a = true) {v : Int} (hv : v ∈ a.2.1.flatten) : 0 ≤ v ∧ v < tot a.2.1 := by
 obtain ⟨_, _, hr⟩ := valid_built h
 obtain ⟨_, _, hg, _⟩ := ranks_ok hr
 exact (good_iff.1 hg).1 v hv
theorem arc_facts {a : Lv} (h : Zay a = true) {x : Arc} (hx : x ∈ a.2.2.1) : x.1 ≠ x.2 ∧ (0 ≤ x.1 ∧ x.1 < tot a.2.1) ∧ (0 ≤ x.2 ∧ x.2 < tot a.2.1) := by
 obtain ⟨k, hk⟩ := List.getElem?_of_mem hx
 obtain ⟨r, p, q, h1, h2⟩ := valid_joins h hk
 refine ⟨fun e => ?_, valid_range h h1.mem, valid_range h h2.mem⟩
 rw [← e] at h2
 have := Lies.layer (Zcc h) h1 h2
 omega
theorem plcF_snoc {z : List Int} {ar : List Arc} {v : Int} {k : Nat} {x : Arc} (h : ar[k]? = some x) : plcF z (ar.take (k + 1)) v = plcF z (ar.take k) v ++ plcA z v x := by
 rw [plcF, plcF, Zat h, List.flatMap_append, List.flatMap_cons, List.flatMap_nil, List.append_nil]
set_option maxHeartbeats 4000000 in
theorem bplaces_spec (a : Lv) (v : Int) (z pl : List Int) (har : a.2.2.1.length ≤ 1000) (hpl : ∀ u : Int, 0 ≤ u → u < pl.length → pl[u.toNat]? = some (placeF z u))
  (hx : ∀ x, x ∈ a.2.2.1 → x.1 ≠ x.2 ∧ (0 ≤ x.1 ∧ x.1 < pl.length) ∧ (0 ≤ x.2 ∧ x.2 < pl.length)) :
  Zah Tryz.prog 97 [lvD a, .int v, Zak pl] (Zak (plcF z a.2.2.1 v)) := by
 obtain ⟨n, ls, ar, cs⟩ := a
 dsimp only at har hx ⊢
 refine Zaf Tryz.func97 rfl (by decide +kernel) (Nat.le_of_ble_eq_true rfl) ?_
 intro hat B X w0
 repeat' first | refine Zad rfl ?_ | refine Zac ?_ | refine wR ?_ | (refine Zaa rfl rfl (fun hc => ?_) (fun hc => ?_) <;> try simp only [hcL] at hc) | (refine Zab _ rfl rfl (fun hc => ?_) (fun hc => ?_) <;> (try simp only [hcL] at hc) <;> try omega) | simp (disch := omega) only [go_sem, simprocAttr] | apply And.intro | omega | decide +kernel
 refine Zbd _ (ent_nil 7 901 1 rfl rfl) ?_
 refine Zap (κ := Nat) (fun (k : Nat) => k ≤ ar.length) (fun (k : Nat) => [(1, .int v), (2, .d (Zak pl)), (7, .ref 901 1 0 (plcF z (ar.take k) v).length (plcF z (ar.take k) v).length), (11, .d (Zal ar)), (12, .int ar.length), (13, .int k)]) (fun (k : Nat) => [(901, .row 1 ((plcF z (ar.take k) v).map D.int))]) (fun (k : Nat) => ar.length - k) 0 ?_ ?_ ?_
 ·exact Nat.zero_le _
 ·exact eL [] _ _ (by refine ⟨?_, ?_⟩ <;> (repeat' first | exact fmn | refine fmc ⟨(by first | rfl | (simp (disch := omega) only [go_sem, simprocAttr, inL, List.take_zero, plcF, List.flatMap_nil, List.map_nil, List.length_nil]; first | done | omega | (congr 1; done))), ?_⟩); done)
 ·intro k hk
  have hRl := plcF_len z v (ar.take k)
  rw [List.length_take, Nat.min_eq_left hk] at hRl
  rcases Nat.lt_or_ge k ar.length with hlt | hge
  ·obtain ⟨x, hxk⟩ := Zan hlt
   obtain ⟨hne, ⟨b1, b2⟩, ⟨b3, b4⟩⟩ := hx x (List.mem_of_getElem? hxk)
   have g1 := hpl x.1 b1 b2
   have g2 := hpl x.2 b3 b4
   have e1 := plcF_snoc (z := z) (v := v) hxk
   rw [plcA] at e1
   generalize plcF z (ar.take k) v = R at *
   generalize placeF z x.1 = q1 at *
   generalize placeF z x.2 = q2 at *
   obtain ⟨s, t⟩ := x
   dsimp only at *
   have htl : (R.map D.int).take R.length = R.map D.int := Zae _ _
   have i1 : s.toNat < pl.length := by omega
   have i2 : t.toNat < pl.length := by omega
   by_cases c1 : s = v ∧ 0 ≤ q2
   ·obtain ⟨c1, c2⟩ := c1
    have c3 : ¬ t = v := fun e => hne (c1.trans e.symm)
    rw [if_pos ⟨c1, c2⟩, if_neg (fun h => c3 h.1), List.append_nil] at e1
    repeat' first | refine Zad rfl ?_ | refine Zac ?_ | refine wR ?_ | (refine Zaa rfl rfl (fun hc => ?_) (fun hc => ?_) <;> try simp only [hcL] at hc) | (refine Zab _ rfl rfl (fun hc => ?_) (fun hc => ?_) <;> (try simp only [hcL] at hc) <;> try omega) | simp (disch := omega) only [go_sem, simprocAttr, hxk, g1, g2, i1, i2, b1, b2, b3, b4, c1, c2, c3, htl, Zbb] | exact Zbs _ | apply And.intro | omega | decide +kernel
    refine ⟨k + 1, ?_, eL [(901, 36)] _ _ (by refine ⟨?_, ?_⟩ <;> (repeat' first | exact fmn | refine fmc ⟨(by first | rfl | (simp (disch := omega) only [go_sem, simprocAttr, inL, e1, List.map_append, List.map_cons, List.map_nil, List.length_append, List.length_cons, List.length_nil, Nat.zero_add, htl]; first | done | omega | (congr 1; done))), ?_⟩); done), ?_⟩
    ·omega
    ·omega
   ·by_cases c4 : t = v ∧ 0 ≤ q1
    ·obtain ⟨c4, c5⟩ := c4
     have c3 : ¬ s = v := fun e => hne (e.trans c4.symm)
     rw [if_neg c1, if_pos ⟨c4, c5⟩, List.nil_append] at e1
     repeat' first | refine Zad rfl ?_ | refine Zac ?_ | refine wR ?_ | (refine Zaa rfl rfl (fun hc => ?_) (fun hc => ?_) <;> try simp only [hcL] at hc) | (refine Zab _ rfl rfl (fun hc => ?_) (fun hc => ?_) <;> (try simp only [hcL] at hc) <;> try omega) | simp (disch := omega) only [go_sem, simprocAttr, hxk, g1, g2, i1, i2, b1, b2, b3, b4, c3, c4, c5, htl, Zbb] | exact Zbs _ | apply And.intro | omega | decide +kernel
     refine ⟨k + 1, ?_, eL [(901, 56)] _ _ (by refine ⟨?_, ?_⟩ <;> (repeat' first | exact fmn | refine fmc ⟨(by first | rfl | (simp (disch := omega) only [go_sem, simprocAttr, inL, e1, List.map_append, List.map_cons, List.map_nil, List.length_append, List.length_cons, List.length_nil, Nat.zero_add, htl]; first | done | omega | (congr 1; done))), ?_⟩); done), ?_⟩
     ·omega
     ·omega
    ·rw [if_neg c1, if_neg c4, List.nil_append, List.append_nil] at e1
     repeat' first | refine Zad rfl ?_ | refine Zac ?_ | refine wR ?_ | (refine Zaa rfl rfl (fun hc => ?_) (fun hc => ?_) <;> try simp only [hcL] at hc) | (refine Zab _ rfl rfl (fun hc => ?_) (fun hc => ?_) <;> (try simp only [hcL] at hc) <;> try omega) | simp (disch := omega) only [go_sem, simprocAttr, hxk, g1, g2, i1, i2, b1, b2, b3, b4, htl, Zbb] | exact Zbs _ | apply And.intro | omega | decide +kernel
     all_goals
      refine ⟨k + 1, ?_, eL [] _ _ (by refine ⟨?_, ?_⟩ <;> (repeat' first | exact fmn | refine fmc ⟨(by first | rfl | (simp (disch := omega) only [go_sem, simprocAttr, inL, e1]; first | done | omega | (congr 1; done))), ?_⟩); done), ?_⟩
      ·omega
      ·omega
  ·have : k = ar.length := by omega
   subst this
   rw [List.take_length] at hRl ⊢
   repeat' first | refine Zad rfl ?_ | refine Zac ?_ | refine wR ?_ | (refine Zaa rfl rfl (fun hc => ?_) (fun hc => ?_) <;> try simp only [hcL] at hc) | (refine Zab _ rfl rfl (fun hc => ?_) (fun hc => ?_) <;> (try simp only [hcL] at hc) <;> try omega) | simp (disch := omega) only [go_sem, simprocAttr] | apply And.intro | omega | decide +kernel
   exact Zci (o := 901) rfl rfl (by simp) (Zae _ _)
theorem nearA_len (v u : Int) (k : Nat) (x : Arc) : (nearA v u k x).length ≤ 1 := by rw [nearA]; split <;> simp
theorem nearL_len (v u : Int) (k : Nat) : ∀ ar : List Arc, (ar.flatMap (nearA v u k)).length ≤ ar.length
 | [] => by simp
 | x :: ar => by
  have := nearL_len v u k ar
  have := nearA_len v u k x
  rw [List.flatMap_cons, List.length_append, List.length_cons]; omega
def nearN (y : List Int) (ar : List Arc) (v : Int) (n : Nat) : List Int := (List.range n).flatMap fun k : Nat => ar.flatMap (nearA v (at0 y k) k)
theorem nearN_succ (y : List Int) (ar : List Arc) (v : Int) (n : Nat) : nearN y ar v (n + 1) = nearN y ar v n ++ ar.flatMap (nearA v (at0 y n) n) := by
 rw [nearN, List.range_succ, List.flatMap_append, List.flatMap_cons, List.flatMap_nil, List.append_nil]; rfl
theorem nearN_len (y : List Int) (ar : List Arc) (v : Int) : ∀ n, (nearN y ar v n).length ≤ n * ar.length
 | 0 => by simp [nearN]
 | n + 1 => by
  have := nearN_len y ar v n
  have := nearL_len v (at0 y n) n ar
  rw [nearN_succ, List.length_append, Nat.add_mul]; omega
set_option maxHeartbeats 4000000 in
theorem rnear_spec (a : Lv) (v : Int) (f : Nat) (z : List Int) (hz : a.2.1[f]? = some z) (hzl : z.length ≤ 1000) (har : a.2.2.1.length ≤ 1000) (hfl : a.2.1.length ≤ 1000) :
  Zah Tryz.prog 108 [lvD a, .int v, .int f] (Zak (nearF z a.2.2.1 v)) := by
 have hfi := (List.getElem?_eq_some_iff.1 hz).1
 show Zah Tryz.prog 108 [lvD a, .int v, .int f] (Zak (nearN z a.2.2.1 v z.length))
 have hNl := nearN_len z a.2.2.1 v
 have hNs := nearN_succ z a.2.2.1 v
 have hN0 : nearN z a.2.2.1 v 0 = [] := rfl
 generalize nearN z a.2.2.1 v = NN at *
 obtain ⟨n, ls, ar, cs⟩ := a
 dsimp only at *
 refine Zaf Tryz.func108 rfl (by decide +kernel) (Nat.le_of_ble_eq_true rfl) ?_
 intro hat B X w0
 repeat' first | refine Zad rfl ?_ | refine Zac ?_ | refine wR ?_ | (refine Zaa rfl rfl (fun hc => ?_) (fun hc => ?_) <;> try simp only [hcL] at hc) | (refine Zab _ rfl rfl (fun hc => ?_) (fun hc => ?_) <;> (try simp only [hcL] at hc) <;> try omega) | simp (disch := omega) only [go_sem, simprocAttr] | apply And.intro | omega | decide +kernel
 refine Zbd _ (ent_nil 7 901 1 rfl rfl) ?_
 refine Zap (κ := Nat) (fun (k : Nat) => k ≤ z.length) (fun (k : Nat) => [(1, .int v), (2, .int f), (3, .ptr 3 0 0 0), (7, .ref 901 1 0 (NN k).length (NN k).length), (8, .int k)]) (fun (k : Nat) => [(3, .cells [.int n, .d (Zaj ls), .d (Zal ar), .d (Zaj cs)]), (901, .row 1 ((NN k).map D.int))]) (fun (k : Nat) => z.length - k) 0 ?_ ?_ ?_
 ·exact Nat.zero_le _
 ·exact eL [] _ _ (by refine ⟨?_, ?_⟩ <;> (repeat' first | exact fmn | refine fmc ⟨(by first | rfl | (simp (disch := omega) only [go_sem, simprocAttr, inL, hN0, List.map_nil, List.length_nil]; first | done | omega | (congr 1; done))), ?_⟩); done)
 ·intro k hk
  have hRl := hNl k
  have hb1 : k * ar.length ≤ 1000 * 1000 := Nat.mul_le_mul (by omega) har
  rcases Nat.lt_or_ge k z.length with hlt | hge
  ·obtain ⟨u, hu⟩ := Zan hlt
   have hux : at0 z k = u := by rw [at0, Int.toNat_natCast, hu]; rfl
   have e1 := hNs k
   rw [hux] at e1
   generalize hR : NN k = R at *
   repeat' first | refine Zad rfl ?_ | refine Zac ?_ | refine wR ?_ | (refine Zaa rfl rfl (fun hc => ?_) (fun hc => ?_) <;> try simp only [hcL] at hc) | (refine Zab _ rfl rfl (fun hc => ?_) (fun hc => ?_) <;> (try simp only [hcL] at hc) <;> try omega) | simp (disch := omega) only [go_sem, simprocAttr, hz, hu] | apply And.intro | omega | decide +kernel
   refine Zap (κ := Nat) (fun (j : Nat) => j ≤ ar.length) (fun (j : Nat) => [(1, .int v), (2, .int f), (3, .ptr 3 0 0 0), (7, .ref 901 1 0 (R ++ (ar.take j).flatMap (nearA v u k)).length (R ++ (ar.take j).flatMap (nearA v u k)).length), (8, .int k), (9, .int u), (10, .int j)]) (fun (j : Nat) => [(3, .cells [.int n, .d (Zaj ls), .d (Zal ar), .d (Zaj cs)]), (901, .row 1 ((R ++ (ar.take j).flatMap (nearA v u k)).map D.int))]) (fun (j : Nat) => ar.length - j) 0 ?_ ?_ ?_
   ·exact Nat.zero_le _
   ·exact eL [] _ _ (by refine ⟨?_, ?_⟩ <;> (repeat' first | exact fmn | refine fmc ⟨(by first | rfl | (simp (disch := omega) only [go_sem, simprocAttr, inL, List.take_zero, List.flatMap_nil, List.append_nil, hR]; first | done | omega | (congr 1; done))), ?_⟩); done)
   ·intro j hj
    have hjl := nearL_len v u k (ar.take j)
    rw [List.length_take, Nat.min_eq_left hj] at hjl
    rcases Nat.lt_or_ge j ar.length with hlj | hgj
    ·obtain ⟨x, hx⟩ := Zan hlj
     have e2 : R ++ (ar.take (j + 1)).flatMap (nearA v u k) = (R ++ (ar.take j).flatMap (nearA v u k)) ++ nearA v u k x := by
      rw [Zat hx, List.flatMap_append, List.flatMap_cons, List.flatMap_nil, List.append_nil, List.append_assoc]
     rw [nearA] at e2
     have hSl : (R ++ (ar.take j).flatMap (nearA v u k)).length ≤ 2000000 := by rw [List.length_append]; omega
     generalize R ++ (ar.take j).flatMap (nearA v u k) = S at *
     have htl : (S.map D.int).take S.length = S.map D.int := Zae _ _
     obtain ⟨s, t⟩ := x
     dsimp only at *
     by_cases c : (s = u ∧ t = v) ∨ (s = v ∧ t = u)
     ·rw [if_pos c] at e2
      repeat' first | refine Zad rfl ?_ | refine Zac ?_ | refine wR ?_ | (refine Zaa rfl rfl (fun hc => ?_) (fun hc => ?_) <;> try simp only [hcL] at hc) | (refine Zab _ rfl rfl (fun hc => ?_) (fun hc => ?_) <;> (try simp only [hcL] at hc) <;> try omega) | simp (disch := omega) only [go_sem, simprocAttr, hx, htl, Zbb, List.append_eq] | exact Zbs _ | apply And.intro | omega | decide +kernel
      all_goals
       refine ⟨j + 1, ?_, eL [(901, 77)] _ _ (by refine ⟨?_, ?_⟩ <;> (repeat' first | exact fmn | refine fmc ⟨(by first | rfl | (simp (disch := omega) only [go_sem, simprocAttr, inL, e2, List.map_append, List.map_cons, List.map_nil, List.length_append, List.length_cons, List.length_nil, Nat.zero_add, htl]; first | done | omega | (congr 1; done))), ?_⟩); done), ?_⟩
       ·omega
       ·omega
     ·rw [if_neg c, List.append_nil] at e2
      have c1 : ¬ (s = u ∧ t = v) := fun h => c (.inl h)
      have c2 : ¬ (s = v ∧ t = u) := fun h => c (.inr h)
      repeat' first | refine Zad rfl ?_ | refine Zac ?_ | refine wR ?_ | (refine Zaa rfl rfl (fun hc => ?_) (fun hc => ?_) <;> try simp only [hcL] at hc) | (refine Zab _ rfl rfl (fun hc => ?_) (fun hc => ?_) <;> (try simp only [hcL] at hc) <;> try omega) | simp (disch := omega) only [go_sem, simprocAttr, hx, htl, Zbb, List.append_eq] | exact Zbs _ | apply And.intro | omega | decide +kernel
      all_goals
       refine ⟨j + 1, ?_, eL [] _ _ (by refine ⟨?_, ?_⟩ <;> (repeat' first | exact fmn | refine fmc ⟨(by first | rfl | (simp (disch := omega) only [go_sem, simprocAttr, inL, e2]; first | done | omega | (congr 1; done))), ?_⟩); done), ?_⟩
       ·omega
       ·omega
    ·have : j = ar.length := by omega
     subst this
     rw [List.take_length, ← e1]
     repeat' first | refine Zad rfl ?_ | refine Zac ?_ | refine wR ?_ | (refine Zaa rfl rfl (fun hc => ?_) (fun hc => ?_) <;> try simp only [hcL] at hc) | (refine Zab _ rfl rfl (fun hc => ?_) (fun hc => ?_) <;> (try simp only [hcL] at hc) <;> try omega) | simp (disch := omega) only [go_sem, simprocAttr] | apply And.intro | omega | decide +kernel
     refine ⟨k + 1, ?_, eL [] _ _ (by refine ⟨?_, ?_⟩ <;> (repeat' first | exact fmn | refine fmc ⟨(by first | rfl | (simp (disch := omega) only [go_sem, simprocAttr, inL]; first | done | omega | (congr 1; done))), ?_⟩); done), ?_⟩
     ·omega
     ·omega
  ·have : k = z.length := by omega
   subst this
   repeat' first | refine Zad rfl ?_ | refine Zac ?_ | refine wR ?_ | (refine Zaa rfl rfl (fun hc => ?_) (fun hc => ?_) <;> try simp only [hcL] at hc) | (refine Zab _ rfl rfl (fun hc => ?_) (fun hc => ?_) <;> (try simp only [hcL] at hc) <;> try omega) | simp (disch := omega) only [go_sem, simprocAttr, hz] | apply And.intro | omega | decide +kernel
   exact Zci (o := 901) rfl rfl (by simp) (Zae _ _)
end Go.Proofs.YtldbcbclhpcofaaGreat
namespace Go.Proofs.YtldbcbclhpcofaaGreat
open Go Go.PS Go.Proofs
open Go.Stb
set_option maxRecDepth 100000
attribute [local irreducible] Zax wpG Zah Zai

theorem rowG_set {g : Nat → Int} {n j : Nat} {x : Int} : (rowG g n).set j x = rowG (fun u => if u = j then x else g u) n := by
 refine List.ext_getElem? fun v => ?_
 rw [List.getElem?_set, Zcr]
 by_cases c : v < n
 ·rw [rowG_get c, rowG_get c]
  by_cases c2 : j = v
  ·subst c2; rw [if_pos rfl, if_pos c, if_pos rfl]
  ·rw [if_neg c2, if_neg (fun h => c2 h.symm)]
 ·rw [List.getElem?_eq_none (by rw [Zcr]; omega), List.getElem?_eq_none (by rw [Zcr]; omega)]
  by_cases c2 : j = v
  ·rw [if_pos c2, if_neg (by omega)]
  ·rw [if_neg c2]
theorem placeF_snoc {z : List Int} (hn : z.Nodup) {k : Nat} {v : Int} (h : z[k]? = some v) (u : Int) : placeF (z.take (k + 1)) u = if u = v then (k : Int) else placeF (z.take k) u := by
 have hn1 : (z.take (k + 1)).Nodup := hn.sublist (List.take_sublist _ _)
 have hn0 : (z.take k).Nodup := hn.sublist (List.take_sublist _ _)
 by_cases c : u = v
 ·subst c
  rw [if_pos rfl]
  exact placeF_at hn1 (by rw [List.getElem?_take, if_pos (by omega)]; exact h)
 ·rw [if_neg c]
  by_cases c2 : u ∈ z.take k
  ·obtain ⟨j, hj⟩ := List.getElem?_of_mem c2
   rw [placeF_at hn0 hj]
   have hjk : j < k := by have := (List.getElem?_eq_some_iff.1 hj).1; rw [List.length_take] at this; omega
   refine placeF_at hn1 ?_
   rw [List.getElem?_take, if_pos hjk] at hj
   rw [List.getElem?_take, if_pos (by omega)]; exact hj
  ·rw [placeF_no c2, placeF_no]
   rw [Zat h]
   intro hm
   rcases List.mem_append.1 hm with hm | hm
   ·exact c2 hm
   ·exact c (List.mem_singleton.1 hm)
def ordN (y z : List Int) (ar : List Arc) (q : Nat) : List Int := rowG (fun k => if hasN y z ar k = true ∧ (freeN y z ar k).length < q then at0 y (((sortB y z ar)[(freeN y z ar k).length]?).getD 0 : Nat) else at0 y k) y.length
theorem ordN_len (y z : List Int) (ar : List Arc) (q : Nat) : (ordN y z ar q).length = y.length := Zcr _ _
theorem ordN_zero (y z : List Int) (ar : List Arc) : ordN y z ar 0 = y := by
 have : ordN y z ar 0 = rowG (fun k : Nat => at0 y k) y.length := Zco fun k _ => if_neg (by omega)
 rw [this]
 refine List.ext_getElem? fun k => ?_
 by_cases c : k < y.length
 ·rw [rowG_get c, at0_at c]
 ·rw [List.getElem?_eq_none (by rw [Zcr]; omega), List.getElem?_eq_none (by omega)]
theorem ordN_full (y z : List Int) (ar : List Arc) : ordN y z ar (freeN y z ar y.length).length = ordB y z ar := by
 refine List.map_congr_left fun k hk => ?_
 rw [List.mem_range] at hk
 rcases c : hasN y z ar k with _ | _
 ·simp
 ·have := (List.getElem?_eq_some_iff.1 (freeN_at hk c)).1
  simp [this]
theorem ordN_step {y z : List Int} {ar : List Arc} {q j t : Nat} (hj : (freeN y z ar y.length)[q]? = some j) (ht : (sortB y z ar)[q]? = some t) : (ordN y z ar q).set j (at0 y t) = ordN y z ar (q + 1) := by
 have h1 := freeN_lt (List.mem_of_getElem? hj)
 have h2 := freeN_at h1.1 h1.2
 have hq : (freeN y z ar j).length = q := by
  exact (nodup_get ((freeN_inc y z ar y.length).imp fun h => Nat.ne_of_lt h) hj h2).symm
 rw [ordN, rowG_set]
 refine Zco fun k hk => ?_
 by_cases c : k = j
 ·subst c
  rw [if_pos rfl, if_pos ⟨h1.2, by omega⟩, hq, ht]; rfl
 ·rw [if_neg c]
  by_cases c2 : hasN y z ar k = true
  ·have : (freeN y z ar k).length ≠ q := fun e => c (freeN_inj hk h1.1 c2 h1.2 (by omega))
   by_cases c3 : (freeN y z ar k).length < q
   ·rw [if_pos ⟨c2, c3⟩, if_pos ⟨c2, by omega⟩]
   ·rw [if_neg (fun h => c3 h.2), if_neg (fun h => by have := h.2; omega)]
  ·rw [if_neg (fun h => c2 h.1), if_neg (fun h => c2 h.1)]
theorem freeN_le (y z : List Int) (ar : List Arc) : ∀ n, (freeN y z ar n).length ≤ n
 | 0 => by simp [freeN]
 | n + 1 => by
  have := freeN_le y z ar n
  rw [freeN_succ]; split
  ·rw [List.length_append, List.length_singleton]; omega
  ·omega
set_option maxHeartbeats 16000000 in
theorem ordered_spec (a : Lv) (i f : Nat) (hw : wide a) (hv : Zay a = true) (har : a.2.2.1.length ≤ 700) (hi : i < a.2.1.length) (hf : f < a.2.1.length) :
  Zah Tryz.prog 90 [lvD a, .int i, .int f] (lvD (layB a i f)) := by
 obtain ⟨y, hy⟩ := Zan hi
 obtain ⟨z, hz⟩ := Zan hf
 have hyn := Zct hv hy
 have hzn := Zct hv hz
 obtain ⟨t1, t2⟩ := Zcq hv
 have hyl := Zbq (List.mem_of_getElem? hy)
 have hzl := Zbq (List.mem_of_getElem? hz)
 have hzr : ∀ (k : Nat) v, z[k]? = some v → 0 ≤ v ∧ v < tot a.2.1 := fun k v hk => valid_range hv (List.mem_flatten.2 ⟨z, List.mem_of_getElem? hz, List.mem_of_getElem? hk⟩)
 have hpl : ∀ v, Zah Tryz.prog 97 [lvD a, .int v, Zak (rowG (fun u : Nat => placeF z u) (tot a.2.1))] (Zak (plcF z a.2.2.1 v)) := fun v =>
  bplaces_spec a v z _ (by omega) (fun u h0 h1 => by
   rw [Zcr] at h1
   rw [rowG_get (by omega), show ((u.toNat : Nat) : Int) = u by omega]) (fun x hx => by
   rw [Zcr]; exact arc_facts hv hx)
 have hre := Reorder_spec a i (ordB y z a.2.2.1) hw (by rw [ordB_len]; omega)
 rw [reorder_perm hv hy (ordB_perm hyn z a.2.2.1)] at hre
 have hlay : layB a i f = putL a i (ordB y z a.2.2.1) := by rw [layB, Zbo hy, Zbo hz]
 rw [← hlay] at hre
 have hcl := cloneO_spec y (by omega)
 have hFl := freeN_le y z a.2.2.1
 have hbk : (freeN y z a.2.2.1 y.length).Pairwise (Back (fun j k : Nat => cmpP (plcF z a.2.2.1 (at0 y j)) (plcF z a.2.2.1 (at0 y k))) (ordP fun k : Nat => plcF z a.2.2.1 (at0 y k))) := by
  refine List.Pairwise.imp ?_ (freeN_inc y z a.2.2.1 y.length)
  intro j k h
  exact ordP_back (p := fun k : Nat => plcF z a.2.2.1 (at0 y k)) h
 have hso := SortStable_spec (fun k : Nat => at0 y k) (fun k : Nat => (plcF z a.2.2.1 (at0 y k)).map D.int) 99 (fun j k : Nat => cmpP (plcF z a.2.2.1 (at0 y j)) (plcF z a.2.2.1 (at0 y k))) (ordP fun k : Nat => plcF z a.2.2.1 (at0 y k)) (ordP_ord _)
  (fun j k => bless_spec _ _ _ _) (freeN y z a.2.2.1 y.length) (sortB y z a.2.2.1) hbk ((freeN_inc y z a.2.2.1 y.length).imp fun h => Nat.ne_of_lt h)
  (sortB_perm y z a.2.2.1) (sortP_sorted (freeN_inc y z a.2.2.1 y.length)) (by have := hFl y.length; omega)
 have hSl := sortB_len y z a.2.2.1
 have hO0 := ordN_zero y z a.2.2.1
 have hOf := ordN_full y z a.2.2.1
 have hOl := ordN_len y z a.2.2.1
 have hOs : ∀ q j t : Nat, (freeN y z a.2.2.1 y.length)[q]? = some j → (sortB y z a.2.2.1)[q]? = some t → (ordN y z a.2.2.1 q).set j (at0 y t) = ordN y z a.2.2.1 (q + 1) := fun q j t => ordN_step
 have hFs := freeN_succ y z a.2.2.1
 have hF0 : freeN y z a.2.2.1 0 = [] := rfl
 have hFm : ∀ q j : Nat, (freeN y z a.2.2.1 y.length)[q]? = some j → j < y.length := fun q j h => (freeN_lt (List.mem_of_getElem? h)).1
 have hH : ∀ k : Nat, hasN y z a.2.2.1 k = decide (0 < (plcF z a.2.2.1 (at0 y k)).length) := fun k => by
  rw [hasN]
  cases plcF z a.2.2.1 (at0 y k) <;> simp
 obtain ⟨C, hC⟩ : ∃ C, C = tot a.2.1 := ⟨_, rfl⟩
 rw [← hC] at hpl hzr t2
 clear hlay hbk
 generalize layB a i f = PP at *
 generalize hPQ : (fun k : Nat => plcF z a.2.2.1 (at0 y k)) = PQ at *
 have hPQe : ∀ k : Nat, plcF z a.2.2.1 (at0 y k) = PQ k := fun k => by rw [← hPQ]
 have hplk : ∀ k : Nat, Zah Tryz.prog 97 [lvD a, .int (at0 y k), Zak (rowG (fun u : Nat => placeF z u) C)] (Zak (PQ k)) := fun k => by rw [← hPQe]; exact hpl _
 simp only [hPQe] at hso hH
 clear hpl hPQ hPQe
 generalize freeN y z a.2.2.1 = F at *
 generalize sortB y z a.2.2.1 = T at *
 generalize ordN y z a.2.2.1 = ON at *
 generalize ordB y z a.2.2.1 = OBv at *
 simp only [hH] at hFs
 clear hH
 obtain ⟨n', ls', ar', cs'⟩ := PP
 obtain ⟨n, ls, ar, cs⟩ := a
 dsimp only at *
 have htk := tot_take_le ls
 refine Zaf Tryz.func90 rfl (by decide +kernel) (Nat.le_of_ble_eq_true rfl) ?_
 intro hat B X w0
 repeat' first | refine Zad rfl ?_ | refine Zac ?_ | refine wR ?_ | (refine Zaa rfl rfl (fun hc => ?_) (fun hc => ?_) <;> try simp only [hcL] at hc) | (refine Zab _ rfl rfl (fun hc => ?_) (fun hc => ?_) <;> (try simp only [hcL] at hc) <;> try omega) | simp (disch := omega) only [go_sem, simprocAttr] | apply And.intro | omega | decide +kernel
 refine Zap (κ := Nat) (fun (k : Nat) => k ≤ ls.length) (fun (k : Nat) => [(1, .int i), (2, .int f), (3, .ptr 3 0 0 0), (6, .ptr 6 0 0 0), (7, .int (tot (ls.take k))), (25, .d (Zaj ls)), (26, .int ls.length), (27, .int k)]) (fun (k : Nat) => [(3, .cells [.int n, .d (Zaj ls), .d (Zal ar), .d (Zaj cs)]), (6, .cells [.int 0, .nilS, .nilS, .nilS])]) (fun (k : Nat) => ls.length - k) 0 ?_ ?_ ?_
 ·exact Nat.zero_le _
 ·exact eL [] _ _ (by refine ⟨?_, ?_⟩ <;> (repeat' first | exact fmn | refine fmc ⟨(by first | rfl | (simp (disch := omega) only [go_sem, simprocAttr, inL, List.take_zero, tot]; first | done | omega | (congr 1; done))), ?_⟩); done)
 ·intro k hk
  have hle := htk k
  rcases Nat.lt_or_ge k ls.length with hlt | hge
  ·obtain ⟨x, hx⟩ := Zan hlt
   have e1 := tot_snoc hx
   have hle2 := htk (k + 1)
   repeat' first | refine Zad rfl ?_ | refine Zac ?_ | refine wR ?_ | (refine Zaa rfl rfl (fun hc => ?_) (fun hc => ?_) <;> try simp only [hcL] at hc) | (refine Zab _ rfl rfl (fun hc => ?_) (fun hc => ?_) <;> (try simp only [hcL] at hc) <;> try omega) | simp (disch := omega) only [go_sem, simprocAttr, hx] | apply And.intro | omega | decide +kernel
   refine ⟨k + 1, ?_, eL [] _ _ (by refine ⟨?_, ?_⟩ <;> (repeat' first | exact fmn | refine fmc ⟨(by first | rfl | (simp (disch := omega) only [go_sem, simprocAttr, inL, e1, Int.natCast_add]; first | done | omega | (congr 1; done))), ?_⟩); done), ?_⟩
   ·omega
   ·omega
  ·have : k = ls.length := by omega
   subst this
   try dsimp only
   rw [List.take_length, ← hC]
   have hz0 : List.replicate C (D.int 0) = (mixR (fun _ => 0) (fun _ => -1) C 0).map D.int := by rw [mixR_zero, rowG_zero]
   repeat' first | refine Zad rfl ?_ | refine Zac ?_ | refine wR ?_ | (refine Zaa rfl rfl (fun hc => ?_) (fun hc => ?_) <;> try simp only [hcL] at hc) | (refine Zab _ rfl rfl (fun hc => ?_) (fun hc => ?_) <;> (try simp only [hcL] at hc) <;> try omega) | simp (disch := omega) only [go_sem, simprocAttr] | apply And.intro | omega | decide +kernel
   refine Zap (κ := Nat) (fun (k : Nat) => k ≤ C) (fun (k : Nat) => [(1, .int i), (2, .int f), (3, .ptr 3 0 0 0), (6, .ptr 6 0 0 0), (10, .ref 37 1 0 C C), (39, .int C), (40, .int k)]) (fun (k : Nat) => [(3, .cells [.int n, .d (Zaj ls), .d (Zal ar), .d (Zaj cs)]), (6, .cells [.int 0, .nilS, .nilS, .nilS]), (37, .row 1 ((mixR (fun _ => 0) (fun _ => -1) C k).map D.int))]) (fun (k : Nat) => C - k) 0 ?_ ?_ ?_
   ·exact Nat.zero_le _
   ·exact eL [] _ _ (by refine ⟨?_, ?_⟩ <;> (repeat' first | exact fmn | refine fmc ⟨(by first | rfl | (simp (disch := omega) only [go_sem, simprocAttr, inL, hz0]; first | done | omega | (congr 1; done))), ?_⟩); done)
   ·intro k hk
    have hml := mixR_len (fun _ => 0) (fun _ => -1) C k
    rcases Nat.lt_or_ge k C with hlt | hge
    ·have hg : (mixR (fun _ => 0) (fun _ => -1) C k)[k]? = some 0 := mixR_get hlt
     have hs2 : ((mixR (fun _ => 0) (fun _ => -1) C k).map D.int).set k (D.int (-1)) = (mixR (fun _ => 0) (fun _ => -1) C (k + 1)).map D.int := by rw [← mixR_step hlt, List.map_set]
     repeat' first | refine Zad rfl ?_ | refine Zac ?_ | refine wR ?_ | (refine Zaa rfl rfl (fun hc => ?_) (fun hc => ?_) <;> try simp only [hcL] at hc) | (refine Zab _ rfl rfl (fun hc => ?_) (fun hc => ?_) <;> (try simp only [hcL] at hc) <;> try omega) | simp (disch := omega) only [go_sem, simprocAttr, hg, hml, hs2] | apply And.intro | omega | decide +kernel
     refine ⟨k + 1, ?_, eL [] _ _ (by refine ⟨?_, ?_⟩ <;> (repeat' first | exact fmn | refine fmc ⟨(by first | rfl | (simp (disch := omega) only [go_sem, simprocAttr, inL, hs2]; first | done | omega | (congr 1; done))), ?_⟩); done), ?_⟩
     ·omega
     ·omega
    ·have : k = C := by omega
     subst this
     have hz1 : mixR (fun _ => 0) (fun _ => -1) k k = rowG (fun u : Nat => placeF (z.take 0) u) k := by rw [mixR_full]; exact Zco fun v _ => rfl
     try dsimp only
     rw [hz1]
     repeat' first | refine Zad rfl ?_ | refine Zac ?_ | refine wR ?_ | (refine Zaa rfl rfl (fun hc => ?_) (fun hc => ?_) <;> try simp only [hcL] at hc) | (refine Zab _ rfl rfl (fun hc => ?_) (fun hc => ?_) <;> (try simp only [hcL] at hc) <;> try omega) | simp (disch := omega) only [go_sem, simprocAttr, hz] | apply And.intro | omega | decide +kernel
     refine Zap (κ := Nat) (fun (j : Nat) => j ≤ z.length) (fun (j : Nat) => [(1, .int i), (3, .ptr 3 0 0 0), (6, .ptr 6 0 0 0), (10, .ref 37 1 0 k k), (51, .d (Zak z)), (52, .int z.length), (53, .int j)]) (fun (j : Nat) => [(3, .cells [.int n, .d (Zaj ls), .d (Zal ar), .d (Zaj cs)]), (6, .cells [.int 0, .nilS, .nilS, .nilS]), (37, .row 1 ((rowG (fun u : Nat => placeF (z.take j) u) k).map D.int))]) (fun (j : Nat) => z.length - j) 0 ?_ ?_ ?_
     ·exact Nat.zero_le _
     ·exact eL [] _ _ (by refine ⟨?_, ?_⟩ <;> (repeat' first | exact fmn | refine fmc ⟨(by first | rfl | (simp (disch := omega) only [go_sem, simprocAttr, inL]; first | done | omega | (congr 1; done))), ?_⟩); done)
     ·intro j hj
      have hml := Zcr (fun u : Nat => placeF (z.take j) u) k
      rcases Nat.lt_or_ge j z.length with hlt | hge
      ·obtain ⟨v, hv1⟩ := Zan hlt
       obtain ⟨v1, v2⟩ := hzr j v hv1
       obtain ⟨v, rfl⟩ : ∃ m : Nat, v = m := ⟨v.toNat, by omega⟩
       have hg : (rowG (fun u : Nat => placeF (z.take j) u) k)[v]? = some (placeF (z.take j) v) := rowG_get (by omega)
       have hs1 : (rowG (fun u : Nat => placeF (z.take j) u) k).set v (j : Int) = rowG (fun u : Nat => placeF (z.take (j + 1)) u) k := by
        rw [rowG_set]
        refine Zco fun u hu => ?_
        rw [placeF_snoc hzn hv1]
        by_cases c : u = v
        ·subst c; rw [if_pos rfl, if_pos rfl]
        ·rw [if_neg c, if_neg (by omega)]
       have hs2 : ((rowG (fun u : Nat => placeF (z.take j) u) k).map D.int).set v (D.int j) = (rowG (fun u : Nat => placeF (z.take (j + 1)) u) k).map D.int := by rw [← hs1, List.map_set]
       repeat' first | refine Zad rfl ?_ | refine Zac ?_ | refine wR ?_ | (refine Zaa rfl rfl (fun hc => ?_) (fun hc => ?_) <;> try simp only [hcL] at hc) | (refine Zab _ rfl rfl (fun hc => ?_) (fun hc => ?_) <;> (try simp only [hcL] at hc) <;> try omega) | simp (disch := omega) only [go_sem, simprocAttr, hv1, hg, hml, hs2] | apply And.intro | omega | decide +kernel
       refine ⟨j + 1, ?_, eL [] _ _ (by refine ⟨?_, ?_⟩ <;> (repeat' first | exact fmn | refine fmc ⟨(by first | rfl | (simp (disch := omega) only [go_sem, simprocAttr, inL, hs2]; first | done | omega | (congr 1; done))), ?_⟩); done), ?_⟩
       ·omega
       ·omega
      ·have : j = z.length := by omega
       subst this
       try dsimp only
       rw [List.take_length]
       refine Zbd _ (Zcm 37 1 ((rowG (fun u : Nat => placeF z u) k).map D.int) rfl (Zcn _ rfl) (by decide)) ?_
       have htl : ((rowG (fun u : Nat => placeF z u) k).map D.int).take k = (rowG (fun u : Nat => placeF z u) k).map D.int := List.take_of_length_le (by rw [List.length_map, Zcr]; exact Nat.le_refl _)
       have hPl := Zcr (fun u : Nat => placeF z u) k
       repeat' first | refine Zad rfl ?_ | refine Zac ?_ | refine wR ?_ | refine rcM [(2000, 903)] (hcl) rfl ?_ | (refine Zaa rfl rfl (fun hc => ?_) (fun hc => ?_) <;> try simp only [hcL] at hc) | (refine Zab _ rfl rfl (fun hc => ?_) (fun hc => ?_) <;> (try simp only [hcL] at hc) <;> try omega) | simp (disch := omega) only [go_sem, simprocAttr, hy, htl, hPl, List.drop_zero] | apply And.intro | omega | decide +kernel
       refine Zbd _ (ent_nil 15 901 1 rfl rfl) ?_
       refine Zbd _ (ent_nil 16 902 2 rfl rfl) ?_
       refine Zap (κ := Nat) (fun (q : Nat) => q ≤ y.length) (fun (q : Nat) => [(1, .int i), (3, .ptr 3 0 0 0), (6, .ptr 6 0 0 0), (10, .d (Zak (rowG (fun u : Nat => placeF z u) k))), (14, .ref 903 1 0 y.length y.length), (15, .ref 901 1 0 (F q).length (F q).length), (16, .ref 902 2 0 (F q).length (F q).length), (69, .ref 903 1 0 y.length y.length), (70, .int y.length), (71, .int q)]) (fun (q : Nat) => [(3, .cells [.int n, .d (Zaj ls), .d (Zal ar), .d (Zaj cs)]), (6, .cells [.int 0, .nilS, .nilS, .nilS]), (901, .row 1 ((F q).map natD)), (902, .row 2 ((F q).map (elD (fun k : Nat => at0 y k) fun k => (PQ k).map D.int))), (903, .row 1 (y.map D.int))]) (fun (q : Nat) => y.length - q) 0 ?_ ?_ ?_
       ·exact Nat.zero_le _
       ·exact eL [] _ _ (by refine ⟨?_, ?_⟩ <;> (repeat' first | exact fmn | refine fmc ⟨(by first | rfl | (simp (disch := omega) only [go_sem, simprocAttr, inL, hF0, List.map_nil, List.length_nil, htl, hPl, Nat.le_refl]; first | done | omega | (congr 1; done))), ?_⟩); done)
       ·intro q hq
        have hql := hFl q
        rcases Nat.lt_or_ge q y.length with hlt | hge
        ·have gq := at0_at (r := y) (i := q) hlt
         have hp := hplk q
         have e1 := hFs q
         have h1 : ((F q).map natD).take (F q).length = (F q).map natD := Zae _ _
         have h2 : ((F q).map (elD (fun k : Nat => at0 y k) fun k => (PQ k).map D.int)).take (F q).length = (F q).map (elD (fun k : Nat => at0 y k) fun k => (PQ k).map D.int) := Zae _ _
         by_cases c : 0 < (PQ q).length
         ·rw [decide_eq_true c, if_pos rfl] at e1
          repeat' first | refine Zad rfl ?_ | refine Zac ?_ | refine wR ?_ | (refine rc (hp) rfl ?_ ?_; (· first | rfl | simp (disch := omega) only [go_sem, simprocAttr, gq, c, h1, h2, Zbb])) | (refine Zaa rfl rfl (fun hc => ?_) (fun hc => ?_) <;> try simp only [hcL] at hc) | (refine Zab _ rfl rfl (fun hc => ?_) (fun hc => ?_) <;> (try simp only [hcL] at hc) <;> try omega) | simp (disch := omega) only [go_sem, simprocAttr, gq, c, h1, h2, Zbb] | (first | exact Zbs _ | exact fun d hd => by rw [List.mem_singleton.1 hd]; rfl) | apply And.intro | omega | decide +kernel
          refine ⟨q + 1, ?_, eL [(901, 86), (902, 92)] _ _ (by refine ⟨?_, ?_⟩ <;> (repeat' first | exact fmn | refine fmc ⟨(by first | rfl | (simp (disch := omega) only [go_sem, simprocAttr, inL, e1, h1, h2, List.map_append, List.map_cons, List.map_nil, List.length_append, List.length_cons, List.length_nil, Nat.zero_add]; first | done | omega | (congr 1; done))), ?_⟩); done), ?_⟩
          ·omega
          ·omega
         ·rw [decide_eq_false c, if_neg (by decide)] at e1
          repeat' first | refine Zad rfl ?_ | refine Zac ?_ | refine wR ?_ | (refine rc (hp) rfl ?_ ?_; (· first | rfl | simp (disch := omega) only [go_sem, simprocAttr, gq, c])) | (refine Zaa rfl rfl (fun hc => ?_) (fun hc => ?_) <;> try simp only [hcL] at hc) | (refine Zab _ rfl rfl (fun hc => ?_) (fun hc => ?_) <;> (try simp only [hcL] at hc) <;> try omega) | simp (disch := omega) only [go_sem, simprocAttr, gq, c] | apply And.intro | omega | decide +kernel
          refine ⟨q + 1, ?_, eL [] _ _ (by refine ⟨?_, ?_⟩ <;> (repeat' first | exact fmn | refine fmc ⟨(by first | rfl | (simp (disch := omega) only [go_sem, simprocAttr, inL, e1]; first | done | omega | (congr 1; done))), ?_⟩); done), ?_⟩
          ·omega
          ·omega
        ·have : q = y.length := by omega
         subst this
         repeat' first | refine Zad rfl ?_ | refine Zac ?_ | refine wR ?_ | refine rcM [(1000, 902)] (hso) rfl ?_ | (refine Zaa rfl rfl (fun hc => ?_) (fun hc => ?_) <;> try simp only [hcL] at hc) | (refine Zab _ rfl rfl (fun hc => ?_) (fun hc => ?_) <;> (try simp only [hcL] at hc) <;> try omega) | simp (disch := omega) only [go_sem, simprocAttr] | apply And.intro | omega | decide +kernel
         refine Zap (κ := Nat) (fun (q : Nat) => q ≤ (F y.length).length) (fun (q : Nat) => [(1, .int i), (3, .ptr 3 0 0 0), (6, .ptr 6 0 0 0), (14, .ref 903 1 0 y.length y.length), (15, .ref 901 1 0 (F y.length).length (F y.length).length), (96, .ref 902 2 0 (F y.length).length (F y.length).length), (97, .int (F y.length).length), (98, .int q)]) (fun (q : Nat) => [(3, .cells [.int n, .d (Zaj ls), .d (Zal ar), .d (Zaj cs)]), (6, .cells [.int 0, .nilS, .nilS, .nilS]), (901, .row 1 ((F y.length).map natD)), (902, .row 2 (T.map (elD (fun k : Nat => at0 y k) fun k => (PQ k).map D.int))), (903, .row 1 ((ON q).map D.int))]) (fun (q : Nat) => (F y.length).length - q) 0 ?_ ?_ ?_
         ·exact Nat.zero_le _
         ·exact eL [] _ _ (by refine ⟨?_, ?_⟩ <;> (repeat' first | exact fmn | refine fmc ⟨(by first | rfl | (simp (disch := omega) only [go_sem, simprocAttr, inL, hO0]; first | done | omega | (congr 1; done))), ?_⟩); done)
         ·intro q hq
          have hol := hOl q
          rcases Nat.lt_or_ge q (F y.length).length with hlt | hge
          ·obtain ⟨j, hj⟩ := Zan hlt
           obtain ⟨t, ht⟩ := Zan (l := T) (k := q) (by omega)
           have hjy := hFm q j hj
           have hs1 := hOs q j t hj ht
           obtain ⟨w, hw1⟩ := Zan (l := ON q) (k := j) (by omega)
           have hs2 : ((ON q).map D.int).set j (D.int (at0 y t)) = (ON (q + 1)).map D.int := by rw [← hs1, List.map_set]
           repeat' first | refine Zad rfl ?_ | refine Zac ?_ | refine wR ?_ | (refine Zaa rfl rfl (fun hc => ?_) (fun hc => ?_) <;> try simp only [hcL] at hc) | (refine Zab _ rfl rfl (fun hc => ?_) (fun hc => ?_) <;> (try simp only [hcL] at hc) <;> try omega) | simp (disch := omega) only [go_sem, simprocAttr, hj, ht, hw1, hol, hSl, hs2] | apply And.intro | omega | decide +kernel
           refine ⟨q + 1, ?_, eL [] _ _ (by refine ⟨?_, ?_⟩ <;> (repeat' first | exact fmn | refine fmc ⟨(by first | rfl | (simp (disch := omega) only [go_sem, simprocAttr, inL, hs2]; first | done | omega | (congr 1; done))), ?_⟩); done), ?_⟩
           ·omega
           ·omega
          ·have : q = (F y.length).length := by omega
           subst this
           try dsimp only
           rw [hOf] at hol ⊢
           refine Zbd _ (Zcm 903 1 (OBv.map D.int) rfl (Zcn _ rfl) (by decide)) ?_
           have htl2 : (OBv.map D.int).take y.length = OBv.map D.int := by rw [← hol]; exact Zae _ _
           repeat' first | refine Zad rfl ?_ | refine Zac ?_ | refine wR ?_ | (refine rc (hre) rfl ?_ ?_; (· first | rfl | simp (disch := omega) only [go_sem, simprocAttr, htl2, hol, List.drop_zero])) | (refine Zaa rfl rfl (fun hc => ?_) (fun hc => ?_) <;> try simp only [hcL] at hc) | (refine Zab _ rfl rfl (fun hc => ?_) (fun hc => ?_) <;> (try simp only [hcL] at hc) <;> try omega) | simp (disch := omega) only [go_sem, simprocAttr, htl2, hol, List.drop_zero] | apply And.intro | omega | decide +kernel
           refine ⟨_, _, _, _, rfl, ?_⟩
           simp (disch := omega) only [go_sem, simprocAttr, toD]
end Go.Proofs.YtldbcbclhpcofaaGreat
namespace Go.Proofs.YtldbcbclhpcofaaGreat
open Go Go.PS Go.Proofs
open Go.Stb
set_option maxRecDepth 100000
attribute [local irreducible] Zax wpG Zah Zai

def cellB (y z : List Int) (ar : List Arc) (k : Nat) : Int := if hasN y z ar k then at0 y (((sortB y z ar)[(freeN y z ar k).length]?).getD 0 : Nat) else at0 y k
theorem ordB_row (y z : List Int) (ar : List Arc) : ordB y z ar = rowG (cellB y z ar) y.length := rfl
theorem one_f (f : Nat → Int) (l : List Nat) : ∀ d, d ∈ l.map (fun t => D.int (f t)) → d.cells.length = 1 := cells_map _ 1 (fun _ => rfl) l
set_option maxHeartbeats 16000000 in
theorem rorder_spec (a : Lv) (i f : Nat) (hv : Zay a = true) (har : a.2.2.1.length ≤ 700) (y z : List Int) (hy : a.2.1[i]? = some y) (hz : a.2.1[f]? = some z) :
  Zah Tryz.prog 101 [lvD a, .int i, .int f] (Zak (ordB y z a.2.2.1)) := by
 have hyn := Zct hv hy
 have hzn := Zct hv hz
 obtain ⟨t1, t2⟩ := Zcq hv
 have hyl := Zbq (List.mem_of_getElem? hy)
 have hzl := Zbq (List.mem_of_getElem? hz)
 have hil := (List.getElem?_eq_some_iff.1 hy).1
 have hfl := (List.getElem?_eq_some_iff.1 hz).1
 have hlp : ∀ x, x ∈ a.2.2.1 → x.1 ≠ x.2 := fun x hx => (arc_facts hv hx).1
 have hnr : ∀ v, Zah Tryz.prog 108 [lvD a, .int v, .int f] (Zak (nearF z a.2.2.1 v)) := fun v => rnear_spec a v f z hz (by omega) (by omega) (by omega)
 have hcm : ∀ u v, cmpP (nearF z a.2.2.1 u) (nearF z a.2.2.1 v) = cmpP (plcF z a.2.2.1 u) (plcF z a.2.2.1 v) := fun u v => cmpP_perm (near_perm hzn hlp u) (near_perm hzn hlp v)
 have hco : ∀ u v, Zah Tryz.prog 109 [Zak (nearF z a.2.2.1 u), Zak (nearF z a.2.2.1 v)] (.int (cmpP (plcF z a.2.2.1 u) (plcF z a.2.2.1 v))) := fun u v => by rw [← hcm]; exact rCompare_spec _ _
 have hem : ∀ k : Nat, (nearF z a.2.2.1 (at0 y k)).length = 0 ↔ hasN y z a.2.2.1 k = false := fun k => by
  have h1 := (near_perm hzn hlp (at0 y k)).length_eq
  rw [hasN]
  cases hp : plcF z a.2.2.1 (at0 y k) with
  | nil => rw [hp] at h1; simp at h1; simp [h1]
  | cons u l => rw [hp, List.length_cons] at h1; simp; intro h; rw [h] at h1; simp at h1
 have hTs : ∀ k, sortP (fun k => plcF z a.2.2.1 (at0 y k)) (freeN y z a.2.2.1 (k + 1)) = if hasN y z a.2.2.1 k then insP (fun k => plcF z a.2.2.1 (at0 y k)) (sortP (fun k => plcF z a.2.2.1 (at0 y k)) (freeN y z a.2.2.1 k)) k else sortP (fun k => plcF z a.2.2.1 (at0 y k)) (freeN y z a.2.2.1 k) := fun k => by
  rw [freeN_succ]; split
  ·rw [sortP_snoc]
  ·rfl
 have hTN : sortP (fun k => plcF z a.2.2.1 (at0 y k)) (freeN y z a.2.2.1 y.length) = sortB y z a.2.2.1 := rfl
 have hTl : ∀ k, (sortP (fun k => plcF z a.2.2.1 (at0 y k)) (freeN y z a.2.2.1 k)).length ≤ k := fun k => by
  have := (sortP_perm (fun k => plcF z a.2.2.1 (at0 y k)) (freeN y z a.2.2.1 k)).length_eq
  have := freeN_le y z a.2.2.1 k
  omega
 have hT0 : sortP (fun k => plcF z a.2.2.1 (at0 y k)) (freeN y z a.2.2.1 0) = [] := rfl
 have hFs := freeN_succ y z a.2.2.1
 have hF0 : freeN y z a.2.2.1 0 = [] := rfl
 have hsb : ∀ k, k < y.length → hasN y z a.2.2.1 k = true → ∃ t, (sortB y z a.2.2.1)[(freeN y z a.2.2.1 k).length]? = some t ∧ cellB y z a.2.2.1 k = at0 y t := fun k hk h => by
  obtain ⟨t, ht, _⟩ := sortB_at hk h
  refine ⟨t, ht, ?_⟩
  rw [cellB, if_pos h, ht]; rfl
 have hcb : ∀ k, hasN y z a.2.2.1 k = false → cellB y z a.2.2.1 k = at0 y k := fun k h => by rw [cellB, if_neg (by rw [h]; decide)]
 rw [ordB_row]
 generalize hPP : (fun k : Nat => plcF z a.2.2.1 (at0 y k)) = PP at *
 have hPe : ∀ k : Nat, plcF z a.2.2.1 (at0 y k) = PP k := fun k => by rw [← hPP]
 have hco2 : ∀ j k : Nat, Zah Tryz.prog 109 [Zak (nearF z a.2.2.1 (at0 y j)), Zak (nearF z a.2.2.1 (at0 y k))] (.int (cmpP (PP j) (PP k))) := fun j k => by rw [← hPe, ← hPe]; exact hco _ _
 clear hco hcm hPe hPP hlp
 generalize nearF z a.2.2.1 = NR at *
 generalize freeN y z a.2.2.1 = F at *
 generalize hSB : sortB y z a.2.2.1 = SB at *
 generalize hasN y z a.2.2.1 = H at *
 generalize cellB y z a.2.2.1 = CB at *
 obtain ⟨TT, hTT⟩ : ∃ TT : Nat → List Nat, ∀ k, sortP PP (F k) = TT k := ⟨_, fun _ => rfl⟩
 simp only [hTT] at *
 obtain ⟨n, ls, ar, cs⟩ := a
 dsimp only at *
 refine Zaf Tryz.func101 rfl (by decide +kernel) (Nat.le_of_ble_eq_true rfl) ?_
 intro hat B X w0
 repeat' first | refine Zad rfl ?_ | refine Zac ?_ | refine wR ?_ | (refine Zaa rfl rfl (fun hc => ?_) (fun hc => ?_) <;> try simp only [hcL] at hc) | (refine Zab _ rfl rfl (fun hc => ?_) (fun hc => ?_) <;> (try simp only [hcL] at hc) <;> try omega) | simp (disch := omega) only [go_sem, simprocAttr] | apply And.intro | omega | decide +kernel
 refine Zbd _ (ent_nil 7 901 1 rfl rfl) ?_
 refine Zap (κ := Nat) (fun (k : Nat) => k ≤ y.length) (fun (k : Nat) => [(1, .int i), (2, .int f), (3, .ptr 3 0 0 0), (7, .ref 901 1 0 (TT k).length (TT k).length), (8, .int k)]) (fun (k : Nat) => [(3, .cells [.int n, .d (Zaj ls), .d (Zal ar), .d (Zaj cs)]), (901, .row 1 ((TT k).map fun t : Nat => D.int (at0 y t)))]) (fun (k : Nat) => y.length - k) 0 ?_ ?_ ?_
 ·exact Nat.zero_le _
 ·exact eL [] _ _ (by refine ⟨?_, ?_⟩ <;> (repeat' first | exact fmn | refine fmc ⟨(by first | rfl | (simp (disch := omega) only [go_sem, simprocAttr, inL, hT0, List.map_nil, List.length_nil]; first | done | omega | (congr 1; done))), ?_⟩); done)
 ·intro k hk
  have hlk := hTl k
  rcases Nat.lt_or_ge k y.length with hlt | hge
  ·have gk := at0_at (r := y) (i := k) hlt
   have e1 := hTs k
   have n1 := hnr (at0 y k)
   have em := hem k
   rcases hh : H k with _ | _
   ·rw [hh, if_neg (by decide)] at e1
    have em0 := em.2 hh
    have em1 : ((NR (at0 y k)).length : Int) = 0 := by omega
    repeat' first | refine Zad rfl ?_ | refine Zac ?_ | refine wR ?_ | (refine rc (n1) rfl ?_ ?_; (· first | rfl | simp (disch := omega) only [go_sem, simprocAttr, hy, gk, em1])) | (refine Zaa rfl rfl (fun hc => ?_) (fun hc => ?_) <;> try simp only [hcL] at hc) | (refine Zab _ rfl rfl (fun hc => ?_) (fun hc => ?_) <;> (try simp only [hcL] at hc) <;> try omega) | simp (disch := omega) only [go_sem, simprocAttr, hy, gk, em1] | apply And.intro | omega | decide +kernel
    refine ⟨k + 1, ?_, eL [] _ _ (by refine ⟨?_, ?_⟩ <;> (repeat' first | exact fmn | refine fmc ⟨(by first | rfl | (simp (disch := omega) only [go_sem, simprocAttr, inL, e1]; first | done | omega | (congr 1; done))), ?_⟩); done), ?_⟩
    ·omega
    ·omega
   ·rw [hh, if_pos rfl, insP] at e1
    have em1 : ¬ ((NR (at0 y k)).length : Int) = 0 := fun h => by
     have := em.1 (by omega)
     rw [hh] at this; cases this
    generalize hTk : TT k = S at *
    repeat' first | refine Zad rfl ?_ | refine Zac ?_ | refine wR ?_ | (refine rc (n1) rfl ?_ ?_; (· first | rfl | simp (disch := omega) only [go_sem, simprocAttr, hy, gk, em1])) | (refine Zaa rfl rfl (fun hc => ?_) (fun hc => ?_) <;> try simp only [hcL] at hc) | (refine Zab _ rfl rfl (fun hc => ?_) (fun hc => ?_) <;> (try simp only [hcL] at hc) <;> try omega) | simp (disch := omega) only [go_sem, simprocAttr, hy, gk, em1] | apply And.intro | omega | decide +kernel
    refine Zap (κ := Nat) (fun (q : Nat) => q ≤ S.length ∧ downP PP S k q = downP PP S k S.length) (fun (q : Nat) => [(1, .int i), (2, .int f), (3, .ptr 3 0 0 0), (7, .ref 901 1 0 S.length S.length), (8, .int k), (9, .int (at0 y k)), (10, .int q)]) (fun (q : Nat) => [(3, .cells [.int n, .d (Zaj ls), .d (Zal ar), .d (Zaj cs)]), (901, .row 1 (S.map fun t : Nat => D.int (at0 y t)))]) (fun (q : Nat) => q) S.length ?_ ?_ ?_
    ·exact ⟨Nat.le_refl _, rfl⟩
    ·exact eL [] _ _ (by refine ⟨?_, ?_⟩ <;> (repeat' first | exact fmn | refine fmc ⟨(by first | rfl | (simp (disch := omega) only [go_sem, simprocAttr, inL]; first | done | omega | (congr 1; done))), ?_⟩); done)
    ·rintro q ⟨hq, hinv⟩
     have hrest : ∀ d, d ≤ S.length → d = downP PP S k S.length → TT (k + 1) = S.take d ++ k :: S.drop d := fun d _ hd => by rw [e1, hd]
     have hdone : ∀ d, (S.take d ++ k :: S.drop d).length = S.length + 1 := fun d => by
      simp only [List.length_append, List.length_cons, List.length_take, List.length_drop]; omega
     rcases Nat.eq_zero_or_pos q with h0 | h0
     ·subst h0
      have hd := hrest 0 (Nat.zero_le _) (by rw [← hinv]; rfl)
      have hdl := hdone 0
      rw [List.take_zero, List.drop_zero, List.nil_append] at hd hdl
      have en : ((0 : Nat) : Int).toNat = 0 := rfl
      have htO : (S.map fun t : Nat => D.int (at0 y t)).take S.length = S.map fun t : Nat => D.int (at0 y t) := Zae _ _
      repeat' first | refine Zad rfl ?_ | refine Zac ?_ | refine wR ?_ | (refine Zaa rfl rfl (fun hc => ?_) (fun hc => ?_) <;> try simp only [hcL] at hc) | (refine Zab _ rfl rfl (fun hc => ?_) (fun hc => ?_) <;> (try simp only [hcL] at hc) <;> try omega) | simp (disch := omega) only [go_sem, simprocAttr, en, Zbb, List.drop_zero, List.take_zero, List.nil_append, Nat.sub_zero, htO, List.length_append, List.length_cons, List.length_nil, Nat.zero_add, Nat.zero_le] | (first | exact Zbs _ | exact one_f _ _ | exact fun d hd => by cases hd) | apply And.intro | omega | decide +kernel
      refine ⟨k + 1, ?_, eL [(901, 74)] _ _ (by refine ⟨?_, ?_⟩ <;> (repeat' first | exact fmn | refine fmc ⟨(by first | rfl | (simp (disch := omega) only [go_sem, simprocAttr, inL, hd, hdl, List.map_cons, List.nil_append, List.cons_append, Nat.add_comm 1 S.length, Nat.zero_add]; first | done | omega | (congr 1; done))), ?_⟩); done), ?_⟩
      ·omega
      ·omega
     ·obtain ⟨q, rfl⟩ : ∃ m, q = m + 1 := ⟨q - 1, by omega⟩
      obtain ⟨t, ht⟩ := Zan (l := S) (k := q) (by omega)
      have n2 := hnr (at0 y t)
      have c1 := hco2 t k
      have ek : (((q + 1 : Nat) : Int) - 1).toNat = q := by omega
      have ek2 : ((q + 1 : Nat) : Int) - 1 = (q : Int) := by omega
      rw [downP, ht, Option.getD_some] at hinv
      by_cases hx : 0 < cmpP (PP t) (PP k)
      ·rw [if_pos hx] at hinv
       repeat' first | refine Zad rfl ?_ | refine Zac ?_ | refine wR ?_ | (refine rc (n1) rfl ?_ ?_; (· first | rfl | simp (disch := omega) only [go_sem, simprocAttr, ek, ek2, ht, hx, hy, gk])) | (refine rc (n2) rfl ?_ ?_; (· first | rfl | simp (disch := omega) only [go_sem, simprocAttr, ek, ek2, ht, hx, hy, gk])) | (refine rc (c1) rfl ?_ ?_; (· first | rfl | simp (disch := omega) only [go_sem, simprocAttr, ek, ek2, ht, hx, hy, gk])) | (refine Zaa rfl rfl (fun hc => ?_) (fun hc => ?_) <;> try simp only [hcL] at hc) | (refine Zab _ rfl rfl (fun hc => ?_) (fun hc => ?_) <;> (try simp only [hcL] at hc) <;> try omega) | simp (disch := omega) only [go_sem, simprocAttr, ek, ek2, ht, hx, hy, gk] | apply And.intro | omega | decide +kernel
       refine ⟨q, ?_, eL [] _ _ (by refine ⟨?_, ?_⟩ <;> (repeat' first | exact fmn | refine fmc ⟨(by first | rfl | (simp (disch := omega) only [go_sem, simprocAttr, inL, ek2]; first | done | omega | (congr 1; done))), ?_⟩); done), ?_⟩
       ·exact ⟨by omega, hinv⟩
       ·omega
      ·rw [if_neg hx] at hinv
       have hd := hrest (q + 1) hq hinv
       have hdl := hdone (q + 1)
       have en : (((q + 1 : Nat) : Int)).toNat = q + 1 := by omega
       have m1 : (S.map fun t : Nat => D.int (at0 y t)).take (q + 1) = (S.take (q + 1)).map fun t : Nat => D.int (at0 y t) := by rw [List.map_take]
       have m2 : (S.map fun t : Nat => D.int (at0 y t)).drop (q + 1) = (S.drop (q + 1)).map fun t : Nat => D.int (at0 y t) := by rw [List.map_drop]
       have l1 : (S.take (q + 1)).length = q + 1 := by rw [List.length_take]; omega
       have l2 : (S.drop (q + 1)).length = S.length - (q + 1) := List.length_drop
       have m3 : ((S.drop (q + 1)).map fun t : Nat => D.int (at0 y t)).take (S.length - (q + 1)) = (S.drop (q + 1)).map fun t : Nat => D.int (at0 y t) := List.take_of_length_le (by rw [List.length_map, l2]; exact Nat.le_refl _)
       have m4 : ((S.take (q + 1)).map fun t : Nat => D.int (at0 y t)).take (q + 1) = (S.take (q + 1)).map fun t : Nat => D.int (at0 y t) := List.take_of_length_le (by rw [List.length_map, l1]; exact Nat.le_refl _)
       have l3 : q + 1 + 1 + (S.length - (q + 1)) = S.length + 1 := by omega
       have l4 : q + 1 + (S.length - (q + 1)) = S.length := by omega
       have l5 : q + 1 ≤ S.length := hq
       have m5 : (((S.take (q + 1)).map fun t : Nat => D.int (at0 y t)) ++ [D.int (at0 y k)]).take (q + 1 + 1) = ((S.take (q + 1)).map fun t : Nat => D.int (at0 y t)) ++ [D.int (at0 y k)] := List.take_of_length_le (by rw [List.length_append, List.length_map, l1]; exact Nat.le_refl _)
       repeat' first | refine Zad rfl ?_ | refine Zac ?_ | refine wR ?_ | (refine rc (n1) rfl ?_ ?_; (· first | rfl | simp (disch := omega) only [go_sem, simprocAttr, ek, en, ht, hx, hy, gk, Zbb, List.drop_zero, Nat.sub_zero, m1, m2, m3, m4, m5, l1, l2, l3, l4, l5, List.length_append, List.length_cons, List.length_nil, Nat.zero_add])) | (refine rc (n2) rfl ?_ ?_; (· first | rfl | simp (disch := omega) only [go_sem, simprocAttr, ek, en, ht, hx, hy, gk, Zbb, List.drop_zero, Nat.sub_zero, m1, m2, m3, m4, m5, l1, l2, l3, l4, l5, List.length_append, List.length_cons, List.length_nil, Nat.zero_add])) | (refine rc (c1) rfl ?_ ?_; (· first | rfl | simp (disch := omega) only [go_sem, simprocAttr, ek, en, ht, hx, hy, gk, Zbb, List.drop_zero, Nat.sub_zero, m1, m2, m3, m4, m5, l1, l2, l3, l4, l5, List.length_append, List.length_cons, List.length_nil, Nat.zero_add])) | (refine Zaa rfl rfl (fun hc => ?_) (fun hc => ?_) <;> try simp only [hcL] at hc) | (refine Zab _ rfl rfl (fun hc => ?_) (fun hc => ?_) <;> (try simp only [hcL] at hc) <;> try omega) | simp (disch := omega) only [go_sem, simprocAttr, ek, en, ht, hx, hy, gk, Zbb, List.drop_zero, Nat.sub_zero, m1, m2, m3, m4, m5, l1, l2, l3, l4, l5, List.length_append, List.length_cons, List.length_nil, Nat.zero_add] | (first | exact Zbs _ | exact one_f _ _ | exact fun d hd => by cases hd) | apply And.intro | omega | decide +kernel
       refine ⟨k + 1, ?_, eL [(901, 74)] _ _ (by refine ⟨?_, ?_⟩ <;> (repeat' first | exact fmn | refine fmc ⟨(by first | rfl | (simp (disch := omega) only [go_sem, simprocAttr, inL, hd, hdl, m5, l3, List.map_append, List.map_cons, List.map_nil, List.append_assoc, List.cons_append, List.nil_append]; first | done | omega | (congr 1; done))), ?_⟩); done), ?_⟩
       ·omega
       ·omega
  ·have : k = y.length := by omega
   subst this
   rw [hTN] at hlk ⊢
   refine Zbd _ (Zcm 901 1 (SB.map fun t : Nat => D.int (at0 y t)) rfl (Zcn _ rfl) (by decide)) ?_
   have htl : (SB.map fun t : Nat => D.int (at0 y t)).take SB.length = SB.map fun t : Nat => D.int (at0 y t) := Zae _ _
   repeat' first | refine Zad rfl ?_ | refine Zac ?_ | refine wR ?_ | (refine Zaa rfl rfl (fun hc => ?_) (fun hc => ?_) <;> try simp only [hcL] at hc) | (refine Zab _ rfl rfl (fun hc => ?_) (fun hc => ?_) <;> (try simp only [hcL] at hc) <;> try omega) | simp (disch := omega) only [go_sem, simprocAttr, hy, htl, List.drop_zero] | apply And.intro | omega | decide +kernel
   refine Zbd _ (ent_nil 12 905 1 rfl rfl) ?_
   refine Zap (κ := Nat) (fun (k : Nat) => k ≤ y.length ∧ (F k).length ≤ k) (fun (k : Nat) => [(1, .int i), (2, .int f), (3, .ptr 3 0 0 0), (7, .d (.sl ((SB.map fun t : Nat => D.int (at0 y t)).drop (F k).length))), (12, .ref 905 1 0 k k), (13, .int k)]) (fun (k : Nat) => [(3, .cells [.int n, .d (Zaj ls), .d (Zal ar), .d (Zaj cs)]), (905, .row 1 ((rowG CB k).map D.int))]) (fun (k : Nat) => y.length - k) 0 ?_ ?_ ?_
   ·exact ⟨Nat.zero_le _, by rw [hF0]; exact Nat.le_refl _⟩
   ·have z0 : rowG CB 0 = [] := rfl
    exact eL [] _ _ (by refine ⟨?_, ?_⟩ <;> (repeat' first | exact fmn | refine fmc ⟨(by first | rfl | (simp (disch := omega) only [go_sem, simprocAttr, inL, z0, hF0, htl, List.map_nil, List.length_nil, List.drop_zero]; first | done | omega | (congr 1; done))), ?_⟩); done)
   ·rintro k ⟨hk, hfk⟩
    have hrl := Zcr CB k
    have hrt : ((rowG CB k).map D.int).take k = (rowG CB k).map D.int := List.take_of_length_le (by rw [List.length_map, hrl]; exact Nat.le_refl _)
    rcases Nat.lt_or_ge k y.length with hlt | hge
    ·have gk := at0_at (r := y) (i := k) hlt
     have e1 := rowG_succ CB k
     have n1 := hnr (at0 y k)
     have em := hem k
     have eF := hFs k
     rcases hh : H k with _ | _
     ·rw [hh, if_neg (by decide)] at eF
      rw [hcb k hh] at e1
      have em0 := em.2 hh
      have em1 : ((NR (at0 y k)).length : Int) = 0 := by omega
      repeat' first | refine Zad rfl ?_ | refine Zac ?_ | refine wR ?_ | (refine rc (n1) rfl ?_ ?_; (· first | rfl | simp (disch := omega) only [go_sem, simprocAttr, hy, gk, em1, hrt, hrl, Zbb])) | (refine Zaa rfl rfl (fun hc => ?_) (fun hc => ?_) <;> try simp only [hcL] at hc) | (refine Zab _ rfl rfl (fun hc => ?_) (fun hc => ?_) <;> (try simp only [hcL] at hc) <;> try omega) | simp (disch := omega) only [go_sem, simprocAttr, hy, gk, em1, hrt, hrl, Zbb] | exact Zbs _ | apply And.intro | omega | decide +kernel
      refine ⟨k + 1, ?_, eL [(905, 102)] _ _ (by refine ⟨?_, ?_⟩ <;> (repeat' first | exact fmn | refine fmc ⟨(by first | rfl | (simp (disch := omega) only [go_sem, simprocAttr, inL, e1, eF, hrt, List.map_append, List.map_cons, List.map_nil]; first | done | omega | (congr 1; done))), ?_⟩); done), ?_⟩
      ·exact ⟨by omega, by rw [eF]; omega⟩
      ·omega
     ·rw [hh, if_pos rfl] at eF
      obtain ⟨t, ht, hct⟩ := hsb k hlt hh
      rw [hct] at e1
      have em1 : ¬ ((NR (at0 y k)).length : Int) = 0 := fun h => by
       have := em.1 (by omega)
       rw [hh] at this; cases this
      have eFl : (F (k + 1)).length = (F k).length + 1 := by rw [eF, List.length_append]; rfl
      have g0 : ((SB.map fun t : Nat => D.int (at0 y t)).drop (F k).length)[0]? = some (D.int (at0 y t)) := by rw [List.getElem?_drop, Nat.add_zero, List.getElem?_map, ht]; rfl
      have hpos : 0 < ((SB.map fun t : Nat => D.int (at0 y t)).drop (F k).length).length := by
       have := (List.getElem?_eq_some_iff.1 ht).1
       rw [List.length_drop, List.length_map]; omega
      have hd1 : (((SB.map fun t : Nat => D.int (at0 y t)).drop (F k).length).take ((SB.map fun t : Nat => D.int (at0 y t)).drop (F k).length).length).drop 1 = (SB.map fun t : Nat => D.int (at0 y t)).drop (F (k + 1)).length := by
       rw [List.take_length, List.drop_drop, eFl]
      have hc1 : ∀ d, d ∈ (SB.map fun t : Nat => D.int (at0 y t)).drop (F k).length → d.cells.length = 1 := fun d hd => one_f _ _ d (List.mem_of_mem_drop hd)
      have hle1 : (SB.map fun t : Nat => D.int (at0 y t)).length = SB.length := List.length_map ..
      generalize (SB.map fun t : Nat => D.int (at0 y t)).drop (F k).length = Z at *
      have hzl1 : Z.length ≤ 1000 ∨ 1000 < Z.length := by omega
      repeat' first | refine Zad rfl ?_ | refine Zac ?_ | refine wR ?_ | (refine rc (n1) rfl ?_ ?_; (· first | rfl | simp (disch := omega) only [go_sem, simprocAttr, hy, gk, em1, hrt, hrl, Zbb, g0, hpos, hd1])) | (refine Zaa rfl rfl (fun hc => ?_) (fun hc => ?_) <;> try simp only [hcL] at hc) | (refine Zab _ rfl rfl (fun hc => ?_) (fun hc => ?_) <;> (try simp only [hcL] at hc) <;> try omega) | simp (disch := omega) only [go_sem, simprocAttr, hy, gk, em1, hrt, hrl, Zbb, g0, hpos, hd1] | (first | exact Zbs _ | exact hc1) | apply And.intro | omega | decide +kernel
      refine ⟨k + 1, ?_, eL [(905, 108)] _ _ (by refine ⟨?_, ?_⟩ <;> (repeat' first | exact fmn | refine fmc ⟨(by first | rfl | (simp (disch := omega) only [go_sem, simprocAttr, inL, e1, hd1, hrt, List.map_append, List.map_cons, List.map_nil]; first | done | omega | (congr 1; done))), ?_⟩); done), ?_⟩
      ·exact ⟨by omega, by rw [eFl]; omega⟩
      ·omega
    ·have : k = y.length := by omega
     subst this
     repeat' first | refine Zad rfl ?_ | refine Zac ?_ | refine wR ?_ | (refine Zaa rfl rfl (fun hc => ?_) (fun hc => ?_) <;> try simp only [hcL] at hc) | (refine Zab _ rfl rfl (fun hc => ?_) (fun hc => ?_) <;> (try simp only [hcL] at hc) <;> try omega) | simp (disch := omega) only [go_sem, simprocAttr, hy] | apply And.intro | omega | decide +kernel
     exact Zci (o := 905) rfl rfl (by simp [hrl]) hrt
end Go.Proofs.YtldbcbclhpcofaaGreat
