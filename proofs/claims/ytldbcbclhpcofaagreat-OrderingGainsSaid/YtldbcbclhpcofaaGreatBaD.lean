/- Barycenters: one layer ordered, by the program. -/
import Derived.Test.YtldbcbclhpcofaaGreatBaS6
set_option linter.unusedSimpArgs false
set_option linter.unusedVariables false
namespace Go.Proofs.YtldbcbclhpcofaaGreat
open Go Go.PS Go.Proofs
open Go.Stb
set_option maxRecDepth 100000
attribute [local irreducible] wpRun wpG CallsTo CallsM

theorem rowG_set {g : Nat → Int} {n j : Nat} {x : Int} : (rowG g n).set j x = rowG (fun u => if u = j then x else g u) n := by
 refine List.ext_getElem? fun v => ?_
 rw [List.getElem?_set, rowG_len]
 by_cases c : v < n
 ·rw [rowG_get c, rowG_get c]
  by_cases c2 : j = v
  ·subst c2; rw [if_pos rfl, if_pos c, if_pos rfl]
  ·rw [if_neg c2, if_neg (fun h => c2 h.symm)]
 ·rw [List.getElem?_eq_none (by rw [rowG_len]; omega), List.getElem?_eq_none (by rw [rowG_len]; omega)]
  by_cases c2 : j = v
  ·rw [if_pos c2, if_neg (by omega)]
  ·rw [if_neg c2]
theorem placeF_snoc {z : List Int} (hn : z.Nodup) {k : Nat} {v : Int} (h : z[k]? = some v) (u : Int) : placeF (z.take (k + 1)) u = if u = v then (k : Int) else placeF (z.take k) u := by
 have hn1 : (z.take (k + 1)).Nodup := hn.sublist (List.take_sublist _ _)
 have hn0 : (z.take k).Nodup := hn.sublist (List.take_sublist _ _)
 by_cases c : u = v
 ·subst c
  rw [if_pos rfl]
  exact placeF_at hn1 (by rw [List.getElem?_take, if_pos (by omega)]; exact h)
 ·rw [if_neg c]
  by_cases c2 : u ∈ z.take k
  ·obtain ⟨j, hj⟩ := List.getElem?_of_mem c2
   rw [placeF_at hn0 hj]
   have hjk : j < k := by have := (List.getElem?_eq_some_iff.1 hj).1; rw [List.length_take] at this; omega
   refine placeF_at hn1 ?_
   rw [List.getElem?_take, if_pos hjk] at hj
   rw [List.getElem?_take, if_pos (by omega)]; exact hj
  ·rw [placeF_no c2, placeF_no]
   rw [take_snoc h]
   intro hm
   rcases List.mem_append.1 hm with hm | hm
   ·exact c2 hm
   ·exact c (List.mem_singleton.1 hm)
def ordN (y z : List Int) (ar : List Arc) (q : Nat) : List Int := rowG (fun k => if hasN y z ar k = true ∧ (freeN y z ar k).length < q then at0 y (((sortB y z ar)[(freeN y z ar k).length]?).getD 0 : Nat) else at0 y k) y.length
theorem ordN_len (y z : List Int) (ar : List Arc) (q : Nat) : (ordN y z ar q).length = y.length := rowG_len _ _
theorem ordN_zero (y z : List Int) (ar : List Arc) : ordN y z ar 0 = y := by
 have : ordN y z ar 0 = rowG (fun k : Nat => at0 y k) y.length := rowG_congr fun k _ => if_neg (by omega)
 rw [this]
 refine List.ext_getElem? fun k => ?_
 by_cases c : k < y.length
 ·rw [rowG_get c, at0_at c]
 ·rw [List.getElem?_eq_none (by rw [rowG_len]; omega), List.getElem?_eq_none (by omega)]
theorem ordN_full (y z : List Int) (ar : List Arc) : ordN y z ar (freeN y z ar y.length).length = ordB y z ar := by
 refine List.map_congr_left fun k hk => ?_
 rw [List.mem_range] at hk
 rcases c : hasN y z ar k with _ | _
 ·simp
 ·have := (List.getElem?_eq_some_iff.1 (freeN_at hk c)).1
  simp [this]
theorem ordN_step {y z : List Int} {ar : List Arc} {q j t : Nat} (hj : (freeN y z ar y.length)[q]? = some j) (ht : (sortB y z ar)[q]? = some t) : (ordN y z ar q).set j (at0 y t) = ordN y z ar (q + 1) := by
 have h1 := freeN_lt (List.mem_of_getElem? hj)
 have h2 := freeN_at h1.1 h1.2
 have hq : (freeN y z ar j).length = q := by
  exact (nodup_get ((freeN_inc y z ar y.length).imp fun h => Nat.ne_of_lt h) hj h2).symm
 rw [ordN, rowG_set]
 refine rowG_congr fun k hk => ?_
 by_cases c : k = j
 ·subst c
  rw [if_pos rfl, if_pos ⟨h1.2, by omega⟩, hq, ht]; rfl
 ·rw [if_neg c]
  by_cases c2 : hasN y z ar k = true
  ·have : (freeN y z ar k).length ≠ q := fun e => c (freeN_inj hk h1.1 c2 h1.2 (by omega))
   by_cases c3 : (freeN y z ar k).length < q
   ·rw [if_pos ⟨c2, c3⟩, if_pos ⟨c2, by omega⟩]
   ·rw [if_neg (fun h => c3 h.2), if_neg (fun h => by have := h.2; omega)]
  ·rw [if_neg (fun h => c2 h.1), if_neg (fun h => c2 h.1)]
theorem freeN_le (y z : List Int) (ar : List Arc) : ∀ n, (freeN y z ar n).length ≤ n
 | 0 => by simp [freeN]
 | n + 1 => by
  have := freeN_le y z ar n
  rw [freeN_succ]; split
  ·rw [List.length_append, List.length_singleton]; omega
  ·omega
set_option maxHeartbeats 16000000 in
theorem ordered_spec (a : Lv) (i f : Nat) (hw : wide a) (hv : validF a = true) (har : a.2.2.1.length ≤ 700) (hi : i < a.2.1.length) (hf : f < a.2.1.length) :
  CallsTo Tryz.prog 90 [lvD a, .int i, .int f] (lvD (layB a i f)) := by
 obtain ⟨y, hy⟩ := get_some hi
 obtain ⟨z, hz⟩ := get_some hf
 have hyn := layer_nodup hv hy
 have hzn := layer_nodup hv hz
 obtain ⟨t1, t2⟩ := lv_le hv
 have hyl := tot_mem (List.mem_of_getElem? hy)
 have hzl := tot_mem (List.mem_of_getElem? hz)
 have hzr : ∀ (k : Nat) v, z[k]? = some v → 0 ≤ v ∧ v < tot a.2.1 := fun k v hk => valid_range hv (List.mem_flatten.2 ⟨z, List.mem_of_getElem? hz, List.mem_of_getElem? hk⟩)
 have hpl : ∀ v, CallsTo Tryz.prog 97 [lvD a, .int v, intsD (rowG (fun u : Nat => placeF z u) (tot a.2.1))] (intsD (plcF z a.2.2.1 v)) := fun v =>
  bplaces_spec a v z _ (by omega) (fun u h0 h1 => by
   rw [rowG_len] at h1
   rw [rowG_get (by omega), show ((u.toNat : Nat) : Int) = u by omega]) (fun x hx => by
   rw [rowG_len]; exact arc_facts hv hx)
 have hre := Reorder_spec a i (ordB y z a.2.2.1) hw (by rw [ordB_len]; omega)
 rw [reorder_perm hv hy (ordB_perm hyn z a.2.2.1)] at hre
 have hlay : layB a i f = putL a i (ordB y z a.2.2.1) := by rw [layB, lstN_at hy, lstN_at hz]
 rw [← hlay] at hre
 have hcl := cloneO_spec y (by omega)
 have hFl := freeN_le y z a.2.2.1
 have hbk : (freeN y z a.2.2.1 y.length).Pairwise (Back (fun j k : Nat => cmpP (plcF z a.2.2.1 (at0 y j)) (plcF z a.2.2.1 (at0 y k))) (ordP fun k : Nat => plcF z a.2.2.1 (at0 y k))) := by
  refine List.Pairwise.imp ?_ (freeN_inc y z a.2.2.1 y.length)
  intro j k h
  exact ordP_back (p := fun k : Nat => plcF z a.2.2.1 (at0 y k)) h
 have hso := SortStable_spec (fun k : Nat => at0 y k) (fun k : Nat => (plcF z a.2.2.1 (at0 y k)).map D.int) 99 (fun j k : Nat => cmpP (plcF z a.2.2.1 (at0 y j)) (plcF z a.2.2.1 (at0 y k))) (ordP fun k : Nat => plcF z a.2.2.1 (at0 y k)) (ordP_ord _)
  (fun j k => bless_spec _ _ _ _) (freeN y z a.2.2.1 y.length) (sortB y z a.2.2.1) hbk ((freeN_inc y z a.2.2.1 y.length).imp fun h => Nat.ne_of_lt h)
  (sortB_perm y z a.2.2.1) (sortP_sorted (freeN_inc y z a.2.2.1 y.length)) (by have := hFl y.length; omega)
 have hSl := sortB_len y z a.2.2.1
 have hO0 := ordN_zero y z a.2.2.1
 have hOf := ordN_full y z a.2.2.1
 have hOl := ordN_len y z a.2.2.1
 have hOs : ∀ q j t : Nat, (freeN y z a.2.2.1 y.length)[q]? = some j → (sortB y z a.2.2.1)[q]? = some t → (ordN y z a.2.2.1 q).set j (at0 y t) = ordN y z a.2.2.1 (q + 1) := fun q j t => ordN_step
 have hFs := freeN_succ y z a.2.2.1
 have hF0 : freeN y z a.2.2.1 0 = [] := rfl
 have hFm : ∀ q j : Nat, (freeN y z a.2.2.1 y.length)[q]? = some j → j < y.length := fun q j h => (freeN_lt (List.mem_of_getElem? h)).1
 have hH : ∀ k : Nat, hasN y z a.2.2.1 k = decide (0 < (plcF z a.2.2.1 (at0 y k)).length) := fun k => by
  rw [hasN]
  cases plcF z a.2.2.1 (at0 y k) <;> simp
 obtain ⟨C, hC⟩ : ∃ C, C = tot a.2.1 := ⟨_, rfl⟩
 rw [← hC] at hpl hzr t2
 clear hlay hbk
 generalize layB a i f = PP at *
 generalize hPQ : (fun k : Nat => plcF z a.2.2.1 (at0 y k)) = PQ at *
 have hPQe : ∀ k : Nat, plcF z a.2.2.1 (at0 y k) = PQ k := fun k => by rw [← hPQ]
 have hplk : ∀ k : Nat, CallsTo Tryz.prog 97 [lvD a, .int (at0 y k), intsD (rowG (fun u : Nat => placeF z u) C)] (intsD (PQ k)) := fun k => by rw [← hPQe]; exact hpl _
 simp only [hPQe] at hso hH
 clear hpl hPQ hPQe
 generalize freeN y z a.2.2.1 = F at *
 generalize sortB y z a.2.2.1 = T at *
 generalize ordN y z a.2.2.1 = ON at *
 generalize ordB y z a.2.2.1 = OBv at *
 simp only [hH] at hFs
 clear hH
 obtain ⟨n', ls', ar', cs'⟩ := PP
 obtain ⟨n, ls, ar, cs⟩ := a
 dsimp only at *
 have htk := tot_take_le ls
 refine callsTo_of Tryz.func90 rfl (by decide +kernel) (Nat.le_of_ble_eq_true rfl) ?_
 intro hat B X w0
 repeat' first | refine pw_seq ?_ | refine pw_skip ?_ | refine pw_ret ?_ | refine pw_exit ?_ | refine pw_block ?_ | refine pw_region (fun _ => false) hmix ?_ | (refine wpG_split rfl rfl (fun hc => ?_) (fun hc => ?_) <;> try simp only [hcL, reduceCtorEq] at hc) | (refine pw_cond _ rfl rfl (fun hc => ?_) (fun hc => ?_) <;> (try simp only [hcL, reduceCtorEq] at hc) <;> try (exfalso; omega)) | simp (maxSteps := 1000000) (disch := omega) only [go_sem, simprocAttr] | apply And.intro | omega | decide +kernel
 refine pw_loopI (κ := Nat) (fun (k : Nat) => k ≤ ls.length) (fun (k : Nat) => [(1, .int i), (2, .int f), (3, .ptr 3 0 0 0), (6, .ptr 6 0 0 0), (7, .int (tot (ls.take k))), (25, .d (listsD ls)), (26, .int ls.length), (27, .int k)]) (fun (k : Nat) => [(3, .cells [.int n, .d (listsD ls), .d (arcsD ar), .d (listsD cs)]), (6, .cells [.int 0, .nilS, .nilS, .nilS])]) (fun (k : Nat) => ls.length - k) 0 ?_ ?_ ?_
 ·exact Nat.zero_le _
 ·exact eL [] _ _ (by refine ⟨?_, ?_⟩ <;> (repeat' first | exact List.forall_mem_nil _ | refine List.forall_mem_cons.2 ⟨(by first | rfl | (simp (disch := omega) only [go_sem, simprocAttr, inL, List.take_zero, tot]; first | done | omega | (congr 1; done))), ?_⟩); done)
 ·intro k hk
  have hle := htk k
  rcases Nat.lt_or_ge k ls.length with hlt | hge
  ·obtain ⟨x, hx⟩ := get_some hlt
   have e1 := tot_snoc hx
   have hle2 := htk (k + 1)
   repeat' first | refine pw_seq ?_ | refine pw_skip ?_ | refine pw_ret ?_ | refine pw_exit ?_ | refine pw_block ?_ | refine pw_region (fun _ => false) hmix ?_ | (refine wpG_split rfl rfl (fun hc => ?_) (fun hc => ?_) <;> try simp only [hcL, reduceCtorEq] at hc) | (refine pw_cond _ rfl rfl (fun hc => ?_) (fun hc => ?_) <;> (try simp only [hcL, reduceCtorEq] at hc) <;> try (exfalso; omega)) | simp (maxSteps := 1000000) (disch := omega) only [go_sem, simprocAttr, hx] | apply And.intro | omega | decide +kernel
   refine ⟨k + 1, ?_, eL [] _ _ (by refine ⟨?_, ?_⟩ <;> (repeat' first | exact List.forall_mem_nil _ | refine List.forall_mem_cons.2 ⟨(by first | rfl | (simp (disch := omega) only [go_sem, simprocAttr, inL, e1, Int.natCast_add]; first | done | omega | (congr 1; done))), ?_⟩); done), ?_⟩
   ·omega
   ·omega
  ·have : k = ls.length := by omega
   subst this
   try dsimp only
   rw [List.take_length, ← hC]
   have hz0 : List.replicate C (D.int 0) = (mixR (fun _ => 0) (fun _ => -1) C 0).map D.int := by rw [mixR_zero, rowG_zero]
   repeat' first | refine pw_seq ?_ | refine pw_skip ?_ | refine pw_ret ?_ | refine pw_exit ?_ | refine pw_block ?_ | refine pw_region (fun _ => false) hmix ?_ | (refine wpG_split rfl rfl (fun hc => ?_) (fun hc => ?_) <;> try simp only [hcL, reduceCtorEq] at hc) | (refine pw_cond _ rfl rfl (fun hc => ?_) (fun hc => ?_) <;> (try simp only [hcL, reduceCtorEq] at hc) <;> try (exfalso; omega)) | simp (maxSteps := 1000000) (disch := omega) only [go_sem, simprocAttr] | apply And.intro | omega | decide +kernel
   refine pw_loopI (κ := Nat) (fun (k : Nat) => k ≤ C) (fun (k : Nat) => [(1, .int i), (2, .int f), (3, .ptr 3 0 0 0), (6, .ptr 6 0 0 0), (10, .ref 37 1 0 C C), (39, .int C), (40, .int k)]) (fun (k : Nat) => [(3, .cells [.int n, .d (listsD ls), .d (arcsD ar), .d (listsD cs)]), (6, .cells [.int 0, .nilS, .nilS, .nilS]), (37, .row 1 ((mixR (fun _ => 0) (fun _ => -1) C k).map D.int))]) (fun (k : Nat) => C - k) 0 ?_ ?_ ?_
   ·exact Nat.zero_le _
   ·exact eL [] _ _ (by refine ⟨?_, ?_⟩ <;> (repeat' first | exact List.forall_mem_nil _ | refine List.forall_mem_cons.2 ⟨(by first | rfl | (simp (disch := omega) only [go_sem, simprocAttr, inL, hz0]; first | done | omega | (congr 1; done))), ?_⟩); done)
   ·intro k hk
    have hml := mixR_len (fun _ => 0) (fun _ => -1) C k
    rcases Nat.lt_or_ge k C with hlt | hge
    ·have hg : (mixR (fun _ => 0) (fun _ => -1) C k)[k]? = some 0 := mixR_get hlt
     have hs2 : ((mixR (fun _ => 0) (fun _ => -1) C k).map D.int).set k (D.int (-1)) = (mixR (fun _ => 0) (fun _ => -1) C (k + 1)).map D.int := by rw [← mixR_step hlt, List.map_set]
     repeat' first | refine pw_seq ?_ | refine pw_skip ?_ | refine pw_ret ?_ | refine pw_exit ?_ | refine pw_block ?_ | refine pw_region (fun _ => false) hmix ?_ | (refine wpG_split rfl rfl (fun hc => ?_) (fun hc => ?_) <;> try simp only [hcL, reduceCtorEq] at hc) | (refine pw_cond _ rfl rfl (fun hc => ?_) (fun hc => ?_) <;> (try simp only [hcL, reduceCtorEq] at hc) <;> try (exfalso; omega)) | simp (maxSteps := 1000000) (disch := omega) only [go_sem, simprocAttr, hg, hml, hs2] | apply And.intro | omega | decide +kernel
     refine ⟨k + 1, ?_, eL [] _ _ (by refine ⟨?_, ?_⟩ <;> (repeat' first | exact List.forall_mem_nil _ | refine List.forall_mem_cons.2 ⟨(by first | rfl | (simp (disch := omega) only [go_sem, simprocAttr, inL, hs2]; first | done | omega | (congr 1; done))), ?_⟩); done), ?_⟩
     ·omega
     ·omega
    ·have : k = C := by omega
     subst this
     have hz1 : mixR (fun _ => 0) (fun _ => -1) k k = rowG (fun u : Nat => placeF (z.take 0) u) k := by rw [mixR_full]; exact rowG_congr fun v _ => rfl
     try dsimp only
     rw [hz1]
     repeat' first | refine pw_seq ?_ | refine pw_skip ?_ | refine pw_ret ?_ | refine pw_exit ?_ | refine pw_block ?_ | refine pw_region (fun _ => false) hmix ?_ | (refine wpG_split rfl rfl (fun hc => ?_) (fun hc => ?_) <;> try simp only [hcL, reduceCtorEq] at hc) | (refine pw_cond _ rfl rfl (fun hc => ?_) (fun hc => ?_) <;> (try simp only [hcL, reduceCtorEq] at hc) <;> try (exfalso; omega)) | simp (maxSteps := 1000000) (disch := omega) only [go_sem, simprocAttr, hz] | apply And.intro | omega | decide +kernel
     refine pw_loopI (κ := Nat) (fun (j : Nat) => j ≤ z.length) (fun (j : Nat) => [(1, .int i), (3, .ptr 3 0 0 0), (6, .ptr 6 0 0 0), (10, .ref 37 1 0 k k), (51, .d (intsD z)), (52, .int z.length), (53, .int j)]) (fun (j : Nat) => [(3, .cells [.int n, .d (listsD ls), .d (arcsD ar), .d (listsD cs)]), (6, .cells [.int 0, .nilS, .nilS, .nilS]), (37, .row 1 ((rowG (fun u : Nat => placeF (z.take j) u) k).map D.int))]) (fun (j : Nat) => z.length - j) 0 ?_ ?_ ?_
     ·exact Nat.zero_le _
     ·exact eL [] _ _ (by refine ⟨?_, ?_⟩ <;> (repeat' first | exact List.forall_mem_nil _ | refine List.forall_mem_cons.2 ⟨(by first | rfl | (simp (disch := omega) only [go_sem, simprocAttr, inL]; first | done | omega | (congr 1; done))), ?_⟩); done)
     ·intro j hj
      have hml := rowG_len (fun u : Nat => placeF (z.take j) u) k
      rcases Nat.lt_or_ge j z.length with hlt | hge
      ·obtain ⟨v, hv1⟩ := get_some hlt
       obtain ⟨v1, v2⟩ := hzr j v hv1
       obtain ⟨v, rfl⟩ : ∃ m : Nat, v = m := ⟨v.toNat, by omega⟩
       have hg : (rowG (fun u : Nat => placeF (z.take j) u) k)[v]? = some (placeF (z.take j) v) := rowG_get (by omega)
       have hs1 : (rowG (fun u : Nat => placeF (z.take j) u) k).set v (j : Int) = rowG (fun u : Nat => placeF (z.take (j + 1)) u) k := by
        rw [rowG_set]
        refine rowG_congr fun u hu => ?_
        rw [placeF_snoc hzn hv1]
        by_cases c : u = v
        ·subst c; rw [if_pos rfl, if_pos rfl]
        ·rw [if_neg c, if_neg (by omega)]
       have hs2 : ((rowG (fun u : Nat => placeF (z.take j) u) k).map D.int).set v (D.int j) = (rowG (fun u : Nat => placeF (z.take (j + 1)) u) k).map D.int := by rw [← hs1, List.map_set]
       repeat' first | refine pw_seq ?_ | refine pw_skip ?_ | refine pw_ret ?_ | refine pw_exit ?_ | refine pw_block ?_ | refine pw_region (fun _ => false) hmix ?_ | (refine wpG_split rfl rfl (fun hc => ?_) (fun hc => ?_) <;> try simp only [hcL, reduceCtorEq] at hc) | (refine pw_cond _ rfl rfl (fun hc => ?_) (fun hc => ?_) <;> (try simp only [hcL, reduceCtorEq] at hc) <;> try (exfalso; omega)) | simp (maxSteps := 1000000) (disch := omega) only [go_sem, simprocAttr, hv1, hg, hml, hs2] | apply And.intro | omega | decide +kernel
       refine ⟨j + 1, ?_, eL [] _ _ (by refine ⟨?_, ?_⟩ <;> (repeat' first | exact List.forall_mem_nil _ | refine List.forall_mem_cons.2 ⟨(by first | rfl | (simp (disch := omega) only [go_sem, simprocAttr, inL, hs2]; first | done | omega | (congr 1; done))), ?_⟩); done), ?_⟩
       ·omega
       ·omega
      ·have : j = z.length := by omega
       subst this
       try dsimp only
       rw [List.take_length]
       refine pw_ent _ (ent_freeze 37 1 ((rowG (fun u : Nat => placeF z u) k).map D.int) rfl (noGone_of _ rfl) (by decide)) ?_
       have htl : ((rowG (fun u : Nat => placeF z u) k).map D.int).take k = (rowG (fun u : Nat => placeF z u) k).map D.int := List.take_of_length_le (by rw [List.length_map, rowG_len]; exact Nat.le_refl _)
       have hPl := rowG_len (fun u : Nat => placeF z u) k
       repeat' first | refine pw_seq ?_ | refine pw_skip ?_ | refine pw_ret ?_ | refine pw_exit ?_ | refine pw_block ?_ | refine pw_region (fun _ => false) hmix ?_ | refine rcM [(2000, 903)] (hcl) rfl ?_ | (refine wpG_split rfl rfl (fun hc => ?_) (fun hc => ?_) <;> try simp only [hcL, reduceCtorEq] at hc) | (refine pw_cond _ rfl rfl (fun hc => ?_) (fun hc => ?_) <;> (try simp only [hcL, reduceCtorEq] at hc) <;> try (exfalso; omega)) | simp (maxSteps := 1000000) (disch := omega) only [go_sem, simprocAttr, hy, htl, hPl, List.drop_zero] | apply And.intro | omega | decide +kernel
       refine pw_ent _ (ent_nil 15 901 1 rfl rfl) ?_
       refine pw_ent _ (ent_nil 16 902 2 rfl rfl) ?_
       refine pw_loopI (κ := Nat) (fun (q : Nat) => q ≤ y.length) (fun (q : Nat) => [(1, .int i), (3, .ptr 3 0 0 0), (6, .ptr 6 0 0 0), (10, .d (intsD (rowG (fun u : Nat => placeF z u) k))), (14, .ref 903 1 0 y.length y.length), (15, .ref 901 1 0 (F q).length (F q).length), (16, .ref 902 2 0 (F q).length (F q).length), (69, .ref 903 1 0 y.length y.length), (70, .int y.length), (71, .int q)]) (fun (q : Nat) => [(3, .cells [.int n, .d (listsD ls), .d (arcsD ar), .d (listsD cs)]), (6, .cells [.int 0, .nilS, .nilS, .nilS]), (901, .row 1 ((F q).map natD)), (902, .row 2 ((F q).map (elD (fun k : Nat => at0 y k) fun k => (PQ k).map D.int))), (903, .row 1 (y.map D.int))]) (fun (q : Nat) => y.length - q) 0 ?_ ?_ ?_
       ·exact Nat.zero_le _
       ·exact eL [] _ _ (by refine ⟨?_, ?_⟩ <;> (repeat' first | exact List.forall_mem_nil _ | refine List.forall_mem_cons.2 ⟨(by first | rfl | (simp (disch := omega) only [go_sem, simprocAttr, inL, hF0, List.map_nil, List.length_nil, htl, hPl, Nat.le_refl]; first | done | omega | (congr 1; done))), ?_⟩); done)
       ·intro q hq
        have hql := hFl q
        rcases Nat.lt_or_ge q y.length with hlt | hge
        ·have gq := at0_at (r := y) (i := q) hlt
         have hp := hplk q
         have e1 := hFs q
         have h1 : ((F q).map natD).take (F q).length = (F q).map natD := take_map_len _ _
         have h2 : ((F q).map (elD (fun k : Nat => at0 y k) fun k => (PQ k).map D.int)).take (F q).length = (F q).map (elD (fun k : Nat => at0 y k) fun k => (PQ k).map D.int) := take_map_len _ _
         by_cases c : 0 < (PQ q).length
         ·rw [decide_eq_true c, if_pos rfl] at e1
          repeat' first | refine pw_seq ?_ | refine pw_skip ?_ | refine pw_ret ?_ | refine pw_exit ?_ | refine pw_block ?_ | refine pw_region (fun _ => false) hmix ?_ | (refine rc (hp) rfl ?_ ?_; (· first | rfl | (simp (disch := omega) only [go_sem, simprocAttr, gq, c, h1, h2, roomy]; done))) | (refine wpG_split rfl rfl (fun hc => ?_) (fun hc => ?_) <;> try simp only [hcL, reduceCtorEq] at hc) | (refine pw_cond _ rfl rfl (fun hc => ?_) (fun hc => ?_) <;> (try simp only [hcL, reduceCtorEq] at hc) <;> try (exfalso; omega)) | simp (maxSteps := 1000000) (disch := omega) only [go_sem, simprocAttr, gq, c, h1, h2, roomy] | (first | exact one_int _ | exact fun d hd => by rw [List.mem_singleton.1 hd]; rfl) | apply And.intro | omega | decide +kernel
          refine ⟨q + 1, ?_, eL [(901, 86), (902, 92)] _ _ (by refine ⟨?_, ?_⟩ <;> (repeat' first | exact List.forall_mem_nil _ | refine List.forall_mem_cons.2 ⟨(by first | rfl | (simp (disch := omega) only [go_sem, simprocAttr, inL, e1, h1, h2, List.map_append, List.map_cons, List.map_nil, List.length_append, List.length_cons, List.length_nil, Nat.zero_add]; first | done | omega | (congr 1; done))), ?_⟩); done), ?_⟩
          ·omega
          ·omega
         ·rw [decide_eq_false c, if_neg (by decide)] at e1
          repeat' first | refine pw_seq ?_ | refine pw_skip ?_ | refine pw_ret ?_ | refine pw_exit ?_ | refine pw_block ?_ | refine pw_region (fun _ => false) hmix ?_ | (refine rc (hp) rfl ?_ ?_; (· first | rfl | (simp (disch := omega) only [go_sem, simprocAttr, gq, c]; done))) | (refine wpG_split rfl rfl (fun hc => ?_) (fun hc => ?_) <;> try simp only [hcL, reduceCtorEq] at hc) | (refine pw_cond _ rfl rfl (fun hc => ?_) (fun hc => ?_) <;> (try simp only [hcL, reduceCtorEq] at hc) <;> try (exfalso; omega)) | simp (maxSteps := 1000000) (disch := omega) only [go_sem, simprocAttr, gq, c] | apply And.intro | omega | decide +kernel
          refine ⟨q + 1, ?_, eL [] _ _ (by refine ⟨?_, ?_⟩ <;> (repeat' first | exact List.forall_mem_nil _ | refine List.forall_mem_cons.2 ⟨(by first | rfl | (simp (disch := omega) only [go_sem, simprocAttr, inL, e1]; first | done | omega | (congr 1; done))), ?_⟩); done), ?_⟩
          ·omega
          ·omega
        ·have : q = y.length := by omega
         subst this
         repeat' first | refine pw_seq ?_ | refine pw_skip ?_ | refine pw_ret ?_ | refine pw_exit ?_ | refine pw_block ?_ | refine pw_region (fun _ => false) hmix ?_ | refine rcM [(1000, 902)] (hso) rfl ?_ | (refine wpG_split rfl rfl (fun hc => ?_) (fun hc => ?_) <;> try simp only [hcL, reduceCtorEq] at hc) | (refine pw_cond _ rfl rfl (fun hc => ?_) (fun hc => ?_) <;> (try simp only [hcL, reduceCtorEq] at hc) <;> try (exfalso; omega)) | simp (maxSteps := 1000000) (disch := omega) only [go_sem, simprocAttr] | apply And.intro | omega | decide +kernel
         refine pw_loopI (κ := Nat) (fun (q : Nat) => q ≤ (F y.length).length) (fun (q : Nat) => [(1, .int i), (3, .ptr 3 0 0 0), (6, .ptr 6 0 0 0), (14, .ref 903 1 0 y.length y.length), (15, .ref 901 1 0 (F y.length).length (F y.length).length), (96, .ref 902 2 0 (F y.length).length (F y.length).length), (97, .int (F y.length).length), (98, .int q)]) (fun (q : Nat) => [(3, .cells [.int n, .d (listsD ls), .d (arcsD ar), .d (listsD cs)]), (6, .cells [.int 0, .nilS, .nilS, .nilS]), (901, .row 1 ((F y.length).map natD)), (902, .row 2 (T.map (elD (fun k : Nat => at0 y k) fun k => (PQ k).map D.int))), (903, .row 1 ((ON q).map D.int))]) (fun (q : Nat) => (F y.length).length - q) 0 ?_ ?_ ?_
         ·exact Nat.zero_le _
         ·exact eL [] _ _ (by refine ⟨?_, ?_⟩ <;> (repeat' first | exact List.forall_mem_nil _ | refine List.forall_mem_cons.2 ⟨(by first | rfl | (simp (disch := omega) only [go_sem, simprocAttr, inL, hO0]; first | done | omega | (congr 1; done))), ?_⟩); done)
         ·intro q hq
          have hol := hOl q
          rcases Nat.lt_or_ge q (F y.length).length with hlt | hge
          ·obtain ⟨j, hj⟩ := get_some hlt
           obtain ⟨t, ht⟩ := get_some (l := T) (k := q) (by omega)
           have hjy := hFm q j hj
           have hs1 := hOs q j t hj ht
           obtain ⟨w, hw1⟩ := get_some (l := ON q) (k := j) (by omega)
           have hs2 : ((ON q).map D.int).set j (D.int (at0 y t)) = (ON (q + 1)).map D.int := by rw [← hs1, List.map_set]
           repeat' first | refine pw_seq ?_ | refine pw_skip ?_ | refine pw_ret ?_ | refine pw_exit ?_ | refine pw_block ?_ | refine pw_region (fun _ => false) hmix ?_ | (refine wpG_split rfl rfl (fun hc => ?_) (fun hc => ?_) <;> try simp only [hcL, reduceCtorEq] at hc) | (refine pw_cond _ rfl rfl (fun hc => ?_) (fun hc => ?_) <;> (try simp only [hcL, reduceCtorEq] at hc) <;> try (exfalso; omega)) | simp (maxSteps := 1000000) (disch := omega) only [go_sem, simprocAttr, hj, ht, hw1, hol, hSl, hs2] | apply And.intro | omega | decide +kernel
           refine ⟨q + 1, ?_, eL [] _ _ (by refine ⟨?_, ?_⟩ <;> (repeat' first | exact List.forall_mem_nil _ | refine List.forall_mem_cons.2 ⟨(by first | rfl | (simp (disch := omega) only [go_sem, simprocAttr, inL, hs2]; first | done | omega | (congr 1; done))), ?_⟩); done), ?_⟩
           ·omega
           ·omega
          ·have : q = (F y.length).length := by omega
           subst this
           try dsimp only
           rw [hOf] at hol ⊢
           refine pw_ent _ (ent_freeze 903 1 (OBv.map D.int) rfl (noGone_of _ rfl) (by decide)) ?_
           have htl2 : (OBv.map D.int).take y.length = OBv.map D.int := by rw [← hol]; exact take_map_len _ _
           repeat' first | refine pw_seq ?_ | refine pw_skip ?_ | refine pw_ret ?_ | refine pw_exit ?_ | refine pw_block ?_ | refine pw_region (fun _ => false) hmix ?_ | (refine rc (hre) rfl ?_ ?_; (· first | rfl | (simp (disch := omega) only [go_sem, simprocAttr, htl2, hol, List.drop_zero]; done))) | (refine wpG_split rfl rfl (fun hc => ?_) (fun hc => ?_) <;> try simp only [hcL, reduceCtorEq] at hc) | (refine pw_cond _ rfl rfl (fun hc => ?_) (fun hc => ?_) <;> (try simp only [hcL, reduceCtorEq] at hc) <;> try (exfalso; omega)) | simp (maxSteps := 1000000) (disch := omega) only [go_sem, simprocAttr, htl2, hol, List.drop_zero] | apply And.intro | omega | decide +kernel
           refine ⟨_, _, _, _, rfl, ?_⟩
           simp (maxSteps := 1000000) (disch := omega) only [go_sem, simprocAttr, toD]
end Go.Proofs.YtldbcbclhpcofaaGreat
namespace Go.Proofs.YtldbcbclhpcofaaGreat
open Go Go.PS Go.Proofs
open Go.Stb
set_option maxRecDepth 100000
attribute [local irreducible] wpRun wpG CallsTo CallsM

end Go.Proofs.YtldbcbclhpcofaaGreat
namespace Go.Proofs.YtldbcbclhpcofaaGreat
open Go Go.PS Go.Proofs
open Go.Stb
set_option maxRecDepth 100000
attribute [local irreducible] wpRun wpG CallsTo CallsM

set_option maxHeartbeats 8000000 in
theorem copied_spec (a : Lv) (h : validF a = true) : CallsTo Tryz.prog 63 [lvD a] (lvD a) := by
 obtain ⟨s1, s2, s3⟩ := lv_sizes h
 obtain ⟨t1, t2⟩ := lv_le h
 have hca := cloneA_spec a.2.2.1 (by omega)
 have hl1 : ∀ (k : Nat) x, a.2.1[k]? = some x → CallsTo Tryz.prog 62 [intsD x] (intsD x) := fun k x hx => cloneI_spec x (by have := tot_mem (List.mem_of_getElem? hx); omega)
 have hl2 : ∀ (k : Nat) x, a.2.2.2[k]? = some x → CallsTo Tryz.prog 62 [intsD x] (intsD x) := fun k x hx => cloneI_spec x (by have := s3 x (List.mem_of_getElem? hx); omega)
 obtain ⟨n, ls, ar, cs⟩ := a
 dsimp only at *
 refine callsTo_of Tryz.func63 rfl (by decide +kernel) (Nat.le_of_ble_eq_true rfl) ?_
 intro hat B X w0
 repeat' first | refine pw_seq ?_ | refine pw_skip ?_ | refine pw_ret ?_ | refine pw_exit ?_ | refine pw_block ?_ | refine pw_region (fun _ => false) hmix ?_ | (refine rc (hca) rfl ?_ ?_; (· first | rfl | (simp (disch := omega) only [go_sem, simprocAttr]; done))) | (refine wpG_split rfl rfl (fun hc => ?_) (fun hc => ?_) <;> try simp only [hcL, reduceCtorEq] at hc) | (refine pw_cond _ rfl rfl (fun hc => ?_) (fun hc => ?_) <;> (try simp only [hcL, reduceCtorEq] at hc) <;> try (exfalso; omega)) | simp (maxSteps := 1000000) (disch := omega) only [go_sem, simprocAttr] | apply And.intro | omega | decide +kernel
 refine pw_ent _ (ent_nilC 3 1 901 1 rfl rfl rfl) ?_
 refine pw_loopI (κ := Nat) (fun (k : Nat) => k ≤ ls.length) (fun (k : Nat) => [(1, .ptr 1 0 0 0), (2, .ptr 2 0 0 0), (3, .ptr 3 0 0 0), (15, .d (listsD ls)), (16, .int ls.length), (17, .int k)]) (fun (k : Nat) => [(1, .cells [.int n, .d (listsD ls), .d (arcsD ar), .d (listsD cs)]), (2, .cells [.int 0, .nilS, .nilS, .nilS]), (3, .cells [.int n, .ref 901 1 0 k k, .d (arcsD ar), .nilS]), (901, .row 1 ((ls.take k).map intsD))]) (fun (k : Nat) => ls.length - k) 0 ?_ ?_ ?_
 ·exact Nat.zero_le _
 ·exact eL [] _ _ (by refine ⟨?_, ?_⟩ <;> (repeat' first | exact List.forall_mem_nil _ | refine List.forall_mem_cons.2 ⟨(by first | rfl | (simp (disch := omega) only [go_sem, simprocAttr, inL, List.take_zero, List.map_nil]; first | done | omega | (congr 1; done))), ?_⟩); done)
 ·intro k hk
  have hlk : (ls.take k).length = k := by rw [List.length_take]; omega
  have htk : ((ls.take k).map intsD).take k = (ls.take k).map intsD := List.take_of_length_le (by rw [List.length_map, hlk]; exact Nat.le_refl _)
  rcases Nat.lt_or_ge k ls.length with hlt | hge
  ·obtain ⟨x, hx⟩ := get_some hlt
   have hc1 := hl1 k x hx
   have e1 := take_snoc hx
   repeat' first | refine pw_seq ?_ | refine pw_skip ?_ | refine pw_ret ?_ | refine pw_exit ?_ | refine pw_block ?_ | refine pw_region (fun _ => false) hmix ?_ | (refine rc (hc1) rfl ?_ ?_; (· first | rfl | (simp (disch := omega) only [go_sem, simprocAttr, hx, hlk, htk, roomy]; done))) | (refine wpG_split rfl rfl (fun hc => ?_) (fun hc => ?_) <;> try simp only [hcL, reduceCtorEq] at hc) | (refine pw_cond _ rfl rfl (fun hc => ?_) (fun hc => ?_) <;> (try simp only [hcL, reduceCtorEq] at hc) <;> try (exfalso; omega)) | simp (maxSteps := 1000000) (disch := omega) only [go_sem, simprocAttr, hx, hlk, htk, roomy] | exact fun d hd => by rw [List.mem_singleton.1 hd]; rfl | apply And.intro | omega | decide +kernel
   refine ⟨k + 1, ?_, eL [(901, 26)] _ _ (by refine ⟨?_, ?_⟩ <;> (repeat' first | exact List.forall_mem_nil _ | refine List.forall_mem_cons.2 ⟨(by first | rfl | (simp (disch := omega) only [go_sem, simprocAttr, inL, e1, htk, List.map_append, List.map_cons, List.map_nil]; first | done | omega | (congr 1; done))), ?_⟩); done), ?_⟩
   ·omega
   ·omega
  ·have : k = ls.length := by omega
   subst this
   try dsimp only
   rw [List.take_length]
   repeat' first | refine pw_seq ?_ | refine pw_skip ?_ | refine pw_ret ?_ | refine pw_exit ?_ | refine pw_block ?_ | refine pw_region (fun _ => false) hmix ?_ | (refine wpG_split rfl rfl (fun hc => ?_) (fun hc => ?_) <;> try simp only [hcL, reduceCtorEq] at hc) | (refine pw_cond _ rfl rfl (fun hc => ?_) (fun hc => ?_) <;> (try simp only [hcL, reduceCtorEq] at hc) <;> try (exfalso; omega)) | simp (maxSteps := 1000000) (disch := omega) only [go_sem, simprocAttr] | apply And.intro | omega | decide +kernel
   refine pw_ent _ (ent_nilC 3 3 902 1 rfl rfl rfl) ?_
   refine pw_loopI (κ := Nat) (fun (k : Nat) => k ≤ cs.length) (fun (k : Nat) => [(2, .ptr 2 0 0 0), (3, .ptr 3 0 0 0), (30, .d (listsD cs)), (31, .int cs.length), (32, .int k)]) (fun (k : Nat) => [(2, .cells [.int 0, .nilS, .nilS, .nilS]), (3, .cells [.int n, .ref 901 1 0 ls.length ls.length, .d (arcsD ar), .ref 902 1 0 k k]), (901, .row 1 (ls.map intsD)), (902, .row 1 ((cs.take k).map intsD))]) (fun (k : Nat) => cs.length - k) 0 ?_ ?_ ?_
   ·exact Nat.zero_le _
   ·exact eL [] _ _ (by refine ⟨?_, ?_⟩ <;> (repeat' first | exact List.forall_mem_nil _ | refine List.forall_mem_cons.2 ⟨(by first | rfl | (simp (disch := omega) only [go_sem, simprocAttr, inL, List.take_zero, List.map_nil]; first | done | omega | (congr 1; done))), ?_⟩); done)
   ·intro k hk
    have hlk : (cs.take k).length = k := by rw [List.length_take]; omega
    have htk : ((cs.take k).map intsD).take k = (cs.take k).map intsD := List.take_of_length_le (by rw [List.length_map, hlk]; exact Nat.le_refl _)
    rcases Nat.lt_or_ge k cs.length with hlt | hge
    ·obtain ⟨x, hx⟩ := get_some hlt
     have hc1 := hl2 k x hx
     have e1 := take_snoc hx
     repeat' first | refine pw_seq ?_ | refine pw_skip ?_ | refine pw_ret ?_ | refine pw_exit ?_ | refine pw_block ?_ | refine pw_region (fun _ => false) hmix ?_ | (refine rc (hc1) rfl ?_ ?_; (· first | rfl | (simp (disch := omega) only [go_sem, simprocAttr, hx, hlk, htk, roomy]; done))) | (refine wpG_split rfl rfl (fun hc => ?_) (fun hc => ?_) <;> try simp only [hcL, reduceCtorEq] at hc) | (refine pw_cond _ rfl rfl (fun hc => ?_) (fun hc => ?_) <;> (try simp only [hcL, reduceCtorEq] at hc) <;> try (exfalso; omega)) | simp (maxSteps := 1000000) (disch := omega) only [go_sem, simprocAttr, hx, hlk, htk, roomy] | exact fun d hd => by rw [List.mem_singleton.1 hd]; rfl | apply And.intro | omega | decide +kernel
     refine ⟨k + 1, ?_, eL [(902, 41)] _ _ (by refine ⟨?_, ?_⟩ <;> (repeat' first | exact List.forall_mem_nil _ | refine List.forall_mem_cons.2 ⟨(by first | rfl | (simp (disch := omega) only [go_sem, simprocAttr, inL, e1, htk, List.map_append, List.map_cons, List.map_nil]; first | done | omega | (congr 1; done))), ?_⟩); done), ?_⟩
     ·omega
     ·omega
    ·have : k = cs.length := by omega
     subst this
     try dsimp only
     rw [List.take_length]
     repeat' first | refine pw_seq ?_ | refine pw_skip ?_ | refine pw_ret ?_ | refine pw_exit ?_ | refine pw_block ?_ | refine pw_region (fun _ => false) hmix ?_ | (refine wpG_split rfl rfl (fun hc => ?_) (fun hc => ?_) <;> try simp only [hcL, reduceCtorEq] at hc) | (refine pw_cond _ rfl rfl (fun hc => ?_) (fun hc => ?_) <;> (try simp only [hcL, reduceCtorEq] at hc) <;> try (exfalso; omega)) | simp (maxSteps := 1000000) (disch := omega) only [go_sem, simprocAttr] | apply And.intro | omega | decide +kernel
     refine ⟨_, _, _, _, rfl, ?_⟩
     simp (maxSteps := 1000000) (disch := omega) only [go_sem, simprocAttr, toD, List.length_map, Nat.le_refl, List.drop_zero]
     rw [take_map_len, take_map_len]
set_option maxHeartbeats 8000000 in
theorem swept_spec (a : Lv) (hw : wide a) (hv : validF a = true) (har : a.2.2.1.length ≤ 700) : CallsTo Tryz.prog 64 [lvD a] (lvD (swB a)) := by
 obtain ⟨t1, t2⟩ := lv_le hv
 have hkd := dwnB_kin (Kin.refl hv hw)
 have hku := fun k hk => upB_kin (hkd (a.2.1.length - 1) (Nat.le_refl _)) k hk
 have h1 : ∀ k, k + 1 < a.2.1.length → CallsTo Tryz.prog 90 [lvD (dwnB a k), .int (k + 1 : Nat), .int k] (lvD (dwnB a (k + 1))) := fun k hk => by
  have hK := hkd k (by omega)
  exact ordered_spec (dwnB a k) (k + 1) k hK.wd hK.ok (by rw [hK.arcs]; exact har) (by rw [hK.len]; omega) (by rw [hK.len]; omega)
 have h2 : ∀ k, k + 1 < a.2.1.length → CallsTo Tryz.prog 90 [lvD (upB (dwnB a (a.2.1.length - 1)) a.2.1.length k), .int (a.2.1.length - 2 - k : Nat), .int (a.2.1.length - 1 - k : Nat)] (lvD (upB (dwnB a (a.2.1.length - 1)) a.2.1.length (k + 1))) := fun k hk => by
  have hK := hku k (by omega)
  exact ordered_spec _ (a.2.1.length - 2 - k) (a.2.1.length - 1 - k) hK.wd hK.ok (by rw [hK.arcs]; exact har) (by rw [hK.len]; omega) (by rw [hK.len]; omega)
 have hl1 : ∀ k, k ≤ a.2.1.length - 1 → (dwnB a k).2.1.length = a.2.1.length := fun k hk => (hkd k hk).len
 rw [swB]
 have hd0 : dwnB a 0 = a := rfl
 have hu0 : upB (dwnB a (a.2.1.length - 1)) a.2.1.length 0 = dwnB a (a.2.1.length - 1) := rfl
 clear hkd hku
 obtain ⟨N, hN⟩ : ∃ N, N = a.2.1.length := ⟨_, rfl⟩
 rw [← hN] at h1 h2 hl1 hu0 t1 ⊢
 generalize upB (dwnB a (N - 1)) N = U at *
 generalize dwnB a = W at *
 rw [← hd0] at hN
 rw [show a = W 0 from hd0.symm]
 clear hd0
 refine callsTo_of Tryz.func64 rfl (by decide +kernel) (Nat.le_of_ble_eq_true rfl) ?_
 intro hat B X w0
 repeat' first | refine pw_seq ?_ | refine pw_skip ?_ | refine pw_ret ?_ | refine pw_exit ?_ | refine pw_block ?_ | refine pw_region (fun _ => false) hmix ?_ | (refine wpG_split rfl rfl (fun hc => ?_) (fun hc => ?_) <;> try simp only [hcL, reduceCtorEq] at hc) | (refine pw_cond _ rfl rfl (fun hc => ?_) (fun hc => ?_) <;> (try simp only [hcL, reduceCtorEq] at hc) <;> try (exfalso; omega)) | simp (maxSteps := 1000000) (disch := omega) only [go_sem, simprocAttr] | apply And.intro | omega | decide +kernel
 refine pw_loopI (κ := Nat) (fun (k : Nat) => k ≤ N - 1) (fun (k : Nat) => [(1, .ptr 1 0 0 0), (2, .ptr 2 0 0 0), (3, .int (k + 1 : Nat))]) (fun (k : Nat) => [(1, .cells [.int (W k).1, .d (listsD (W k).2.1), .d (arcsD (W k).2.2.1), .d (listsD (W k).2.2.2)]), (2, .cells [.int 0, .nilS, .nilS, .nilS])]) (fun (k : Nat) => N - k) 0 ?_ ?_ ?_
 ·exact Nat.zero_le _
 ·exact eL [] _ _ (by refine ⟨?_, ?_⟩ <;> (repeat' first | exact List.forall_mem_nil _ | refine List.forall_mem_cons.2 ⟨(by first | rfl | (simp (disch := omega) only [go_sem, simprocAttr, inL, Nat.zero_add, Int.natCast_one]; first | done | omega | (congr 1; done))), ?_⟩); done)
 ·intro k hk
  have hl := hl1 k hk
  have e1 : ((k + 1 : Nat) : Int) - 1 = (k : Int) := by omega
  have e2 : ((k + 1 : Nat) : Int) + 1 = ((k + 1 + 1 : Nat) : Int) := by omega
  rcases Nat.lt_or_ge (k + 1) N with hlt | hge
  ·have c1 := h1 k hlt
   repeat' first | refine pw_seq ?_ | refine pw_skip ?_ | refine pw_ret ?_ | refine pw_exit ?_ | refine pw_block ?_ | refine pw_region (fun _ => false) hmix ?_ | (refine rc (c1) rfl ?_ ?_; (· first | rfl | (simp (disch := omega) only [go_sem, simprocAttr, hl, e1, e2]; done))) | (refine wpG_split rfl rfl (fun hc => ?_) (fun hc => ?_) <;> try simp only [hcL, reduceCtorEq] at hc) | (refine pw_cond _ rfl rfl (fun hc => ?_) (fun hc => ?_) <;> (try simp only [hcL, reduceCtorEq] at hc) <;> try (exfalso; omega)) | simp (maxSteps := 1000000) (disch := omega) only [go_sem, simprocAttr, hl, e1, e2] | apply And.intro | omega | decide +kernel
   refine ⟨k + 1, ?_, eL [] _ _ (by refine ⟨?_, ?_⟩ <;> (repeat' first | exact List.forall_mem_nil _ | refine List.forall_mem_cons.2 ⟨(by first | rfl | (simp (disch := omega) only [go_sem, simprocAttr, inL]; first | done | omega | (congr 1; done))), ?_⟩); done), ?_⟩
   ·omega
   ·omega
  ·have : k = N - 1 := by omega
   subst this
   rw [← hu0] at hl ⊢
   clear hu0 h1
   repeat' first | refine pw_seq ?_ | refine pw_skip ?_ | refine pw_ret ?_ | refine pw_exit ?_ | refine pw_block ?_ | refine pw_region (fun _ => false) hmix ?_ | (refine wpG_split rfl rfl (fun hc => ?_) (fun hc => ?_) <;> try simp only [hcL, reduceCtorEq] at hc) | (refine pw_cond _ rfl rfl (fun hc => ?_) (fun hc => ?_) <;> (try simp only [hcL, reduceCtorEq] at hc) <;> try (exfalso; omega)) | simp (maxSteps := 1000000) (disch := omega) only [go_sem, simprocAttr, hl] | apply And.intro | omega | decide +kernel
   refine pw_loopI (κ := Nat) (fun (k : Nat) => k ≤ N - 1) (fun (k : Nat) => [(1, .ptr 1 0 0 0), (2, .ptr 2 0 0 0), (4, .int ((N : Int) - 2 - k))]) (fun (k : Nat) => [(1, .cells [.int (U k).1, .d (listsD (U k).2.1), .d (arcsD (U k).2.2.1), .d (listsD (U k).2.2.2)]), (2, .cells [.int 0, .nilS, .nilS, .nilS])]) (fun (k : Nat) => N - k) 0 ?_ ?_ ?_
   ·exact Nat.zero_le _
   ·exact eL [] _ _ (by refine ⟨?_, ?_⟩ <;> (repeat' first | exact List.forall_mem_nil _ | refine List.forall_mem_cons.2 ⟨(by first | rfl | (simp (disch := omega) only [go_sem, simprocAttr, inL, Int.natCast_zero, Int.sub_zero]; first | done | omega | (congr 1; done))), ?_⟩); done)
   ·intro k hk
    rcases Nat.lt_or_ge (k + 1) N with hlt | hge
    ·have c1 := h2 k hlt
     have e3 : (N : Int) - 2 - k = ((N - 2 - k : Nat) : Int) := by omega
     have e4 : ((N - 2 - k : Nat) : Int) + 1 = ((N - 1 - k : Nat) : Int) := by omega
     have e5 : ((N - 2 - k : Nat) : Int) - 1 = (N : Int) - 2 - ((k + 1 : Nat) : Int) := by omega
     rw [e3]
     repeat' first | refine pw_seq ?_ | refine pw_skip ?_ | refine pw_ret ?_ | refine pw_exit ?_ | refine pw_block ?_ | refine pw_region (fun _ => false) hmix ?_ | (refine rc (c1) rfl ?_ ?_; (· first | rfl | (simp (disch := omega) only [go_sem, simprocAttr, e4, e5]; done))) | (refine wpG_split rfl rfl (fun hc => ?_) (fun hc => ?_) <;> try simp only [hcL, reduceCtorEq] at hc) | (refine pw_cond _ rfl rfl (fun hc => ?_) (fun hc => ?_) <;> (try simp only [hcL, reduceCtorEq] at hc) <;> try (exfalso; omega)) | simp (maxSteps := 1000000) (disch := omega) only [go_sem, simprocAttr, e4, e5] | apply And.intro | omega | decide +kernel
     refine ⟨k + 1, ?_, eL [] _ _ (by refine ⟨?_, ?_⟩ <;> (repeat' first | exact List.forall_mem_nil _ | refine List.forall_mem_cons.2 ⟨(by first | rfl | (simp (disch := omega) only [go_sem, simprocAttr, inL]; first | done | omega | (congr 1; done))), ?_⟩); done), ?_⟩
     ·omega
     ·omega
    ·have : k = N - 1 := by omega
     subst this
     repeat' first | refine pw_seq ?_ | refine pw_skip ?_ | refine pw_ret ?_ | refine pw_exit ?_ | refine pw_block ?_ | refine pw_region (fun _ => false) hmix ?_ | (refine wpG_split rfl rfl (fun hc => ?_) (fun hc => ?_) <;> try simp only [hcL, reduceCtorEq] at hc) | (refine pw_cond _ rfl rfl (fun hc => ?_) (fun hc => ?_) <;> (try simp only [hcL, reduceCtorEq] at hc) <;> try (exfalso; omega)) | simp (maxSteps := 1000000) (disch := omega) only [go_sem, simprocAttr] | apply And.intro | omega | decide +kernel
     refine ⟨_, _, _, _, rfl, ?_⟩
     simp (maxSteps := 1000000) (disch := omega) only [go_sem, simprocAttr, toD]
theorem rnd_eq (r : Int) : (if (100 : Int) < (if r < 0 then 0 else r) then (100 : Int) else (if r < 0 then 0 else r)) = (rndB r : Int) := by
 rw [rndB]; split <;> split <;> omega
set_option maxHeartbeats 8000000 in
theorem bRun_spec (a : Lv) (r : Int) (hw : wide a) (har : a.2.2.1.length ≤ 700) : CallsTo Tryz.prog 37 [lvD a, .int r] (.tup [lvD (brnF a r).1, .int (brnF a r).2]) := by
 have h1 := LvValid_spec a hw
 rw [brnF]
 rcases hv : validF a with _ | _ <;> rw [hv] at h1
 ·rw [if_neg (by decide)]
  refine callsTo_of Tryz.func37 rfl (by decide +kernel) (Nat.le_of_ble_eq_true rfl) ?_
  intro hat B X w0
  repeat' first | refine pw_seq ?_ | refine pw_skip ?_ | refine pw_ret ?_ | refine pw_exit ?_ | refine pw_block ?_ | refine pw_region (fun _ => false) hmix ?_ | (refine rc (h1) rfl ?_ ?_; (· first | rfl | (simp (disch := omega) only [go_sem, simprocAttr]; done))) | (refine wpG_split rfl rfl (fun hc => ?_) (fun hc => ?_) <;> try simp only [hcL, reduceCtorEq] at hc) | (refine pw_cond _ rfl rfl (fun hc => ?_) (fun hc => ?_) <;> (try simp only [hcL, reduceCtorEq] at hc) <;> try (exfalso; omega)) | simp (maxSteps := 1000000) (disch := omega) only [go_sem, simprocAttr] | apply And.intro | omega | decide +kernel
  refine ⟨_, rfl, ⟨_, _, _, _, rfl, ?_⟩, int_some rfl, trivial⟩
  simp (maxSteps := 1000000) (disch := omega) only [go_sem, simprocAttr, toD]
  rfl
 ·rw [if_pos rfl]
  obtain ⟨t1, t2⟩ := lv_le hv
  have h2 := copied_spec a hv
  have hk := nowB_kin hv hw
  have h3 : ∀ k, CallsTo Tryz.prog 64 [lvD (nowB a k)] (lvD (nowB a (k + 1))) := fun k => swept_spec _ (hk k).wd (hk k).ok (by rw [(hk k).arcs]; exact har)
  have h4 : ∀ k, CallsTo Tryz.prog 38 [lvD (nowB a k)] (.int (TotalF (nowB a k))) := fun k => Total_spec _ (hk k).wd (by rw [(hk k).len]; omega)
  have hbs : ∀ k, bstB a (k + 1) = if TotalF (nowB a (k + 1)) < TotalF (bstB a k) then nowB a (k + 1) else bstB a k := fun _ => rfl
  have hb0 : bstB a 0 = nowB a 0 := rfl
  have hn0 : nowB a 0 = a := rfl
  have hre := rnd_eq r
  have hr100 : rndB r ≤ 100 := by rw [rndB]; omega
  dsimp only
  generalize rndB r = R at *
  rw [← hn0] at h1 h2
  rw [show a = nowB a 0 from rfl]
  rw [show bstB (nowB a 0) = bstB a from rfl]
  clear hk hn0
  generalize nowB a = W at *
  generalize bstB a = Bs at *
  refine callsTo_of Tryz.func37 rfl (by decide +kernel) (Nat.le_of_ble_eq_true rfl) ?_
  intro hat B X w0
  have h40 := h4 0
  repeat' first | refine pw_seq ?_ | refine pw_skip ?_ | refine pw_ret ?_ | refine pw_exit ?_ | refine pw_block ?_ | refine pw_region (fun _ => false) hmix ?_ | (refine rc (h1) rfl ?_ ?_; (· first | rfl | (simp (disch := omega) only [go_sem, simprocAttr, hre]; done))) | (refine rc (h2) rfl ?_ ?_; (· first | rfl | (simp (disch := omega) only [go_sem, simprocAttr, hre]; done))) | (refine rc (h40) rfl ?_ ?_; (· first | rfl | (simp (disch := omega) only [go_sem, simprocAttr, hre]; done))) | (refine wpG_split rfl rfl (fun hc => ?_) (fun hc => ?_) <;> try simp only [hcL, reduceCtorEq] at hc) | (refine pw_cond _ rfl rfl (fun hc => ?_) (fun hc => ?_) <;> (try simp only [hcL, reduceCtorEq] at hc) <;> try (exfalso; omega)) | simp (maxSteps := 1000000) (disch := omega) only [go_sem, simprocAttr, hre] | apply And.intro | omega | decide +kernel
  refine pw_loopI (κ := Nat) (fun (k : Nat) => k ≤ R) (fun (k : Nat) => [(2, .ptr 2 0 0 0), (4, .ptr 4 0 0 0), (6, .ptr 6 0 0 0), (7, .int (TotalF (Bs k))), (20, .int R), (21, .int k)]) (fun (k : Nat) => [(2, .cells [.int (W k).1, .d (listsD (W k).2.1), .d (arcsD (W k).2.2.1), .d (listsD (W k).2.2.2)]), (4, .cells [.int 0, .nilS, .nilS, .nilS]), (6, .cells [.int (Bs k).1, .d (listsD (Bs k).2.1), .d (arcsD (Bs k).2.2.1), .d (listsD (Bs k).2.2.2)])]) (fun (k : Nat) => R - k) 0 ?_ ?_ ?_
  ·exact Nat.zero_le _
  ·exact eL [] _ _ (by refine ⟨?_, ?_⟩ <;> (repeat' first | exact List.forall_mem_nil _ | refine List.forall_mem_cons.2 ⟨(by first | rfl | (simp (disch := omega) only [go_sem, simprocAttr, inL, hb0]; first | done | omega | (congr 1; done))), ?_⟩); done)
  ·intro k hk
   rcases Nat.lt_or_ge k R with hlt | hge
   ·have c1 := h3 k
    have c2 := h4 (k + 1)
    have e1 := hbs k
    by_cases c : TotalF (W (k + 1)) < TotalF (Bs k)
    ·rw [if_pos c] at e1
     repeat' first | refine pw_seq ?_ | refine pw_skip ?_ | refine pw_ret ?_ | refine pw_exit ?_ | refine pw_block ?_ | refine pw_region (fun _ => false) hmix ?_ | (refine rc (c1) rfl ?_ ?_; (· first | rfl | (simp (disch := omega) only [go_sem, simprocAttr, c]; done))) | (refine rc (c2) rfl ?_ ?_; (· first | rfl | (simp (disch := omega) only [go_sem, simprocAttr, c]; done))) | (refine wpG_split rfl rfl (fun hc => ?_) (fun hc => ?_) <;> try simp only [hcL, reduceCtorEq] at hc) | (refine pw_cond _ rfl rfl (fun hc => ?_) (fun hc => ?_) <;> (try simp only [hcL, reduceCtorEq] at hc) <;> try (exfalso; omega)) | simp (maxSteps := 1000000) (disch := omega) only [go_sem, simprocAttr, c] | apply And.intro | omega | decide +kernel
     refine ⟨k + 1, ?_, eL [] _ _ (by refine ⟨?_, ?_⟩ <;> (repeat' first | exact List.forall_mem_nil _ | refine List.forall_mem_cons.2 ⟨(by first | rfl | (simp (disch := omega) only [go_sem, simprocAttr, inL, e1]; first | done | omega | (congr 1; done))), ?_⟩); done), ?_⟩
     ·omega
     ·omega
    ·rw [if_neg c] at e1
     repeat' first | refine pw_seq ?_ | refine pw_skip ?_ | refine pw_ret ?_ | refine pw_exit ?_ | refine pw_block ?_ | refine pw_region (fun _ => false) hmix ?_ | (refine rc (c1) rfl ?_ ?_; (· first | rfl | (simp (disch := omega) only [go_sem, simprocAttr, c]; done))) | (refine rc (c2) rfl ?_ ?_; (· first | rfl | (simp (disch := omega) only [go_sem, simprocAttr, c]; done))) | (refine wpG_split rfl rfl (fun hc => ?_) (fun hc => ?_) <;> try simp only [hcL, reduceCtorEq] at hc) | (refine pw_cond _ rfl rfl (fun hc => ?_) (fun hc => ?_) <;> (try simp only [hcL, reduceCtorEq] at hc) <;> try (exfalso; omega)) | simp (maxSteps := 1000000) (disch := omega) only [go_sem, simprocAttr, c] | apply And.intro | omega | decide +kernel
     refine ⟨k + 1, ?_, eL [] _ _ (by refine ⟨?_, ?_⟩ <;> (repeat' first | exact List.forall_mem_nil _ | refine List.forall_mem_cons.2 ⟨(by first | rfl | (simp (disch := omega) only [go_sem, simprocAttr, inL, e1]; first | done | omega | (congr 1; done))), ?_⟩); done), ?_⟩
     ·omega
     ·omega
   ·have : k = R := by omega
    subst this
    repeat' first | refine pw_seq ?_ | refine pw_skip ?_ | refine pw_ret ?_ | refine pw_exit ?_ | refine pw_block ?_ | refine pw_region (fun _ => false) hmix ?_ | (refine wpG_split rfl rfl (fun hc => ?_) (fun hc => ?_) <;> try simp only [hcL, reduceCtorEq] at hc) | (refine pw_cond _ rfl rfl (fun hc => ?_) (fun hc => ?_) <;> (try simp only [hcL, reduceCtorEq] at hc) <;> try (exfalso; omega)) | simp (maxSteps := 1000000) (disch := omega) only [go_sem, simprocAttr] | apply And.intro | omega | decide +kernel
    refine ⟨_, rfl, ⟨_, _, _, _, rfl, ?_⟩, int_some rfl, trivial⟩
    simp (maxSteps := 1000000) (disch := omega) only [go_sem, simprocAttr, toD]
/-! The reference. -/
end Go.Proofs.YtldbcbclhpcofaaGreat
namespace Go.Proofs.YtldbcbclhpcofaaGreat
open Go Go.PS Go.Proofs
set_option maxRecDepth 100000
attribute [local irreducible] wpRun wpG CallsTo CallsM

theorem accC_zero (a : Lv) (i : Nat) (u v : Nat) : accC a [] (lstN a.2.1 i) 0 i 0 u v = 0 := by
 rw [accC, wCell]; split <;> rfl
set_option maxHeartbeats 16000000 in
theorem omatrix_spec (a : Lv) (i : Nat) (hw : wide a) (hv : validF a = true) (hil : i < a.2.1.length) :
  CallsTo Tryz.prog 59 [lvD a, .int i] (listsD (orM a i)) := by
 obtain ⟨y, hy⟩ := get_some hil
 obtain ⟨t1, t2⟩ := lv_le hv
 have hyl := tot_mem (List.mem_of_getElem? hy)
 have hacc := accC_le a [] (lstN a.2.1 i) (w := 0) (by decide) i
 have haccS : ∀ t u v, accC a [] (lstN a.2.1 i) 0 i (t + 1) u v = accC a [] (lstN a.2.1 i) 0 i t u v + cellAt (MatrixF a i (fixT i t)) u v := fun _ _ _ => rfl
 have haccZ := accC_zero a i
 have hMsq : ∀ t, Sq (MatrixF a i (fixT i t)) := fun t => MatrixF_sq a i (fixT i t)
 have hMlen : ∀ t, (MatrixF a i (fixT i t)).length = 0 ∨ (MatrixF a i (fixT i t)).length = y.length := fun t => by
  rw [MatrixF]
  split
  ·right
   simp [matF, endsF, lenAt, hy]
  ·left; rfl
 have hMs : ∀ t, CallsTo Tryz.prog 27 [lvD a, .int i, .int (fixT i t)] (listsD (MatrixF a i (fixT i t))) := fun t => Matrix_spec a i (fixT i t) hw
 rw [orM, stM]
 rw [lstN_at hy] at *
 generalize accC a [] y 0 i = A at *
 obtain ⟨Q, hQ⟩ : ∃ Q : Nat → List (List Int), ∀ t, MatrixF a i (fixT i t) = Q t := ⟨_, fun _ => rfl⟩
 simp only [hQ] at *
 obtain ⟨N, hN⟩ : ∃ N, N = y.length := ⟨_, rfl⟩
 have hN5 : N ≤ 512 := by omega
 obtain ⟨n, ls, ar, cs⟩ := a
 dsimp only at *
 refine callsTo_of Tryz.func59 rfl (by decide +kernel) (Nat.le_of_ble_eq_true rfl) ?_
 intro hat B X w0
 repeat' first | refine pw_seq ?_ | refine pw_skip ?_ | refine pw_ret ?_ | refine pw_exit ?_ | refine pw_block ?_ | refine pw_region (fun _ => false) hmix ?_ | (refine wpG_split rfl rfl (fun hc => ?_) (fun hc => ?_) <;> try simp only [hcL, reduceCtorEq] at hc) | (refine pw_cond _ rfl rfl (fun hc => ?_) (fun hc => ?_) <;> (try simp only [hcL, reduceCtorEq] at hc) <;> try (exfalso; omega)) | simp (maxSteps := 1000000) (disch := omega) only [go_sem, simprocAttr, hy, List.append_eq, ← hN] | apply And.intro | omega | decide +kernel
 refine pw_ent _ (ent_famNew 1 19 1 N rfl (fun i hi => by simp (disch := omega) only [go_sem, simprocAttr, obOf_fid, argEnv]) (by decide) (by decide)) ?_
 have hiN : ∀ (k : Nat) (x y : List D), k < N → (if k < N then x else y) = x := fun k x y h => if_pos h
 have hz : ∀ u, List.replicate N (D.int 0) = (rowG (A 0 u) N).map D.int := fun u => by
  rw [rowG_zero]; congr 1; exact rowG_congr fun v _ => (haccZ u v).symm
 refine pw_loopF (κ := Nat) (fun (u : Nat) => u ≤ N) (fun (u : Nat) => [(1, .int i), (2, .ptr 2 0 0 0), (5, .ref 19 1 0 N N), (21, .int N), (22, .int u)]) (fun (u : Nat) => [⟨1, 19, 1, N, fun k => if k < u then (rowG (A 0 k) N).map D.int else []⟩]) (fun (u : Nat) => [(2, .cells [.int n, .d (listsD ls), .d (arcsD ar), .d (listsD cs)])]) (fun (u : Nat) => N - u) 0 ?_ ?_ ?_
 ·exact Nat.zero_le _
 ·refine eF [] [] _ _ _ (by refine ⟨?_, ?_⟩ <;> (repeat' first | exact List.forall_mem_nil _ | refine List.forall_mem_cons.2 ⟨(by first | rfl | (simp (disch := omega) only [go_sem, simprocAttr, inL, ← hN]; first | done | omega | (congr 1; done))), ?_⟩); done) ?_
  repeat' first | exact List.forall_mem_nil _ | refine List.forall_mem_cons.2 ⟨?_, ?_⟩
  all_goals refine ⟨_, (by first | rfl | (simp (disch := omega) only [go_sem, simprocAttr, Nat.not_lt_zero]; done) | (simp (disch := omega) only [go_sem, simprocAttr, Nat.not_lt_zero]; rfl)), fun i hi => ?_⟩
  all_goals dsimp only at hi ⊢
  all_goals try (exfalso; omega)
  all_goals try (simp (disch := omega) only [go_sem, simprocAttr, Nat.not_lt_zero, fid_lit, lit_fid]; done)
 ·intro u hu
  rcases Nat.lt_or_ge u N with hlt | hge
  ·have hzu := hz u
   have hnu : ¬ u < u := by omega
   have hrl := rowG_len (A 0 u) N
   have hsu : ∀ i, i ≠ u → ((i < u + 1) = (i < u)) := fun i h => propext (by omega)
   refine pw_ent _ (ent_bor _ _ [2, 19] 19 u 900 1 1 N (by first | rfl | (simp (disch := omega) only [go_sem, simprocAttr, hnu]; done) | (simp (disch := omega) only [go_sem, simprocAttr, hnu]; rfl)) (by first | (simp (disch := omega) only [go_sem, simprocAttr, hnu]; done) | (simp (disch := omega) only [go_sem, simprocAttr, hnu]; rfl)) (by first | (simp (disch := omega) only [go_sem, simprocAttr, hnu]; done) | (simp (disch := omega) only [go_sem, simprocAttr, hnu]; rfl)) (fun i hi hne => by simp (disch := omega) only [go_sem, simprocAttr, hne, hnu]; (repeat' split) <;> exact .ref _ _ _ _ _ ⟨by simp (disch := omega) only [go_sem, simprocAttr, hne, hnu], by simp (disch := omega) only [go_sem, simprocAttr, hne, hnu]⟩) (by (repeat' first | refine ab_nil ?_ | exact ab_obOf (ids := [2, 19]) rfl rfl (Nat.le_of_ble_eq_true rfl) | refine ab_hole ?_ | refine ab_row ?_ | refine ab_dead ?_ | refine ab_self ?_ | refine ab_self_fam ?_ | refine ab_fam (by dsimp only; omega) (by dsimp only; omega) (by omega) (by omega) (Nat.le_of_ble_eq_true rfl) ?_); done) rfl rfl rfl) ?_
   repeat' first | refine pw_seq ?_ | refine pw_skip ?_ | refine pw_ret ?_ | refine pw_exit ?_ | refine pw_block ?_ | refine pw_region (fun _ => false) hmix ?_ | (refine wpG_split rfl rfl (fun hc => ?_) (fun hc => ?_) <;> try simp only [hcL, reduceCtorEq] at hc) | (refine pw_cond _ rfl rfl (fun hc => ?_) (fun hc => ?_) <;> (try simp only [hcL, reduceCtorEq] at hc) <;> try (exfalso; omega)) | simp (maxSteps := 1000000) (disch := omega) only [go_sem, simprocAttr, ← hN, hnu] | apply And.intro | omega | decide +kernel
   refine ⟨u + 1, ?_, eF [(fid 1 u, 29)] [] _ _ _ (by refine ⟨?_, ?_⟩ <;> (repeat' first | exact List.forall_mem_nil _ | refine List.forall_mem_cons.2 ⟨(by first | rfl | (simp (disch := omega) only [go_sem, simprocAttr, inL]; first | done | omega | (congr 1; done))), ?_⟩); done) ?_, ?_⟩
   ·omega
   ·repeat' first | exact List.forall_mem_nil _ | refine List.forall_mem_cons.2 ⟨?_, ?_⟩
    all_goals refine ⟨_, (by first | rfl | (simp (disch := omega) only [go_sem, simprocAttr, hzu, hrl, hnu, hsu, Nat.lt_add_one, List.length_map]; done) | (simp (disch := omega) only [go_sem, simprocAttr, hzu, hrl, hnu, hsu, Nat.lt_add_one, List.length_map]; rfl)), fun i hi => ?_⟩
    all_goals dsimp only at hi ⊢
    all_goals rcases Decidable.em (i = u) with rfl | hi0
    all_goals try (exfalso; omega)
    all_goals try (simp (disch := omega) only [go_sem, simprocAttr, hzu, hrl, hnu, hsu, Nat.lt_add_one, List.length_map, fid_lit, lit_fid]; done)
    all_goals try (simp (disch := omega) only [go_sem, simprocAttr, hzu, hrl, hnu, hsu, Nat.lt_add_one, List.length_map, hi0, fid_lit, lit_fid]; done)
   ·omega
  ·have : N = u := by omega
   subst this
   try dsimp only
   obtain ⟨F, hF⟩ : ∃ F : List D, F = [D.int ((i : Int) - 1), D.int ((i : Int) + 1)] := ⟨_, rfl⟩
   have hFl : F.length = 2 := by rw [hF]; rfl
   have hFx : ∀ t, t < 2 → F[t]? = some (D.int (fixT i t)) := fun t ht => by
    rw [hF]
    rcases t with _ | _ | t
    ·rfl
    ·rfl
    ·omega
   repeat' first | refine pw_seq ?_ | refine pw_skip ?_ | refine pw_ret ?_ | refine pw_exit ?_ | refine pw_block ?_ | refine pw_region (fun _ => false) hmix ?_ | (refine wpG_split rfl rfl (fun hc => ?_) (fun hc => ?_) <;> try simp only [hcL, reduceCtorEq] at hc) | (refine pw_cond _ rfl rfl (fun hc => ?_) (fun hc => ?_) <;> (try simp only [hcL, reduceCtorEq] at hc) <;> try (exfalso; omega)) | simp (maxSteps := 1000000) (disch := omega) only [go_sem, simprocAttr] | apply And.intro | omega | decide +kernel
   refine pw_loopF (κ := Nat) (fun (t : Nat) => t ≤ 2) (fun (t : Nat) => [(1, .int i), (2, .ptr 2 0 0 0), (5, .ref 19 1 0 N N), (36, .d (.sl F)), (37, .int 2), (38, .int t)]) (fun (t : Nat) => [⟨1, 19, 1, N, fun k => (rowG (A t k) N).map D.int⟩]) (fun (t : Nat) => [(2, .cells [.int n, .d (listsD ls), .d (arcsD ar), .d (listsD cs)])]) (fun (t : Nat) => 2 - t) 0 ?_ ?_ ?_
   ·exact Nat.zero_le _
   ·refine eF [] [] _ _ _ (by refine ⟨?_, ?_⟩ <;> (repeat' first | exact List.forall_mem_nil _ | refine List.forall_mem_cons.2 ⟨(by first | rfl | (simp (disch := omega) only [go_sem, simprocAttr, inL, hF]; first | done | omega | (congr 1; done))), ?_⟩); done) ?_
    repeat' first | exact List.forall_mem_nil _ | refine List.forall_mem_cons.2 ⟨?_, ?_⟩
    all_goals refine ⟨_, (by first | rfl | (simp (disch := omega) only [go_sem, simprocAttr, hiN]; done) | (simp (disch := omega) only [go_sem, simprocAttr, hiN]; rfl)), fun i hi => ?_⟩
    all_goals dsimp only at hi ⊢
    all_goals try (exfalso; omega)
    all_goals try (simp (disch := omega) only [go_sem, simprocAttr, hiN, fid_lit, lit_fid]; done)
   ·intro t ht
    rcases Nat.lt_or_ge t 2 with hlt2 | hge2
    ·have hx := hFx t hlt2
     have hM := hMs t
     have hsq := hMsq t
     have hml := hMlen t
     have hS := haccS t
     generalize hR : Q t = R at *
     repeat' first | refine pw_seq ?_ | refine pw_skip ?_ | refine pw_ret ?_ | refine pw_exit ?_ | refine pw_block ?_ | refine pw_region (fun _ => false) hmix ?_ | (refine rc (hM) rfl ?_ ?_; (· first | rfl | (simp (disch := omega) only [go_sem, simprocAttr, hx, List.append_eq]; done))) | (refine wpG_split rfl rfl (fun hc => ?_) (fun hc => ?_) <;> try simp only [hcL, reduceCtorEq] at hc) | (refine pw_cond _ rfl rfl (fun hc => ?_) (fun hc => ?_) <;> (try simp only [hcL, reduceCtorEq] at hc) <;> try (exfalso; omega)) | simp (maxSteps := 1000000) (disch := omega) only [go_sem, simprocAttr, hx, List.append_eq] | apply And.intro | omega | decide +kernel
     refine pw_loopF (κ := Nat) (fun (c : Nat) => c ≤ R.length) (fun (c : Nat) => [(1, .int i), (2, .ptr 2 0 0 0), (5, .ref 19 1 0 N N), (36, .d (.sl F)), (37, .int 2), (38, .int t), (45, .d (listsD R)), (46, .int R.length), (47, .int c)]) (fun (c : Nat) => [⟨1, 19, 1, N, fun k => if k < c then (rowG (A (t + 1) k) N).map D.int else (rowG (A t k) N).map D.int⟩]) (fun (c : Nat) => [(2, .cells [.int n, .d (listsD ls), .d (arcsD ar), .d (listsD cs)])]) (fun (c : Nat) => R.length - c) 0 ?_ ?_ ?_
     ·exact Nat.zero_le _
     ·refine eF [] [] _ _ _ (by refine ⟨?_, ?_⟩ <;> (repeat' first | exact List.forall_mem_nil _ | refine List.forall_mem_cons.2 ⟨(by first | rfl | (simp (disch := omega) only [go_sem, simprocAttr, inL, hFl]; first | done | omega | (congr 1; done))), ?_⟩); done) ?_
      repeat' first | exact List.forall_mem_nil _ | refine List.forall_mem_cons.2 ⟨?_, ?_⟩
      all_goals refine ⟨_, (by first | rfl | (simp (disch := omega) only [go_sem, simprocAttr, Nat.not_lt_zero]; done) | (simp (disch := omega) only [go_sem, simprocAttr, Nat.not_lt_zero]; rfl)), fun i hi => ?_⟩
      all_goals dsimp only at hi ⊢
      all_goals try (exfalso; omega)
      all_goals try (simp (disch := omega) only [go_sem, simprocAttr, Nat.not_lt_zero, fid_lit, lit_fid]; done)
     ·intro c hc0
      rcases Nat.lt_or_ge c R.length with hlc | hgc
      ·have hRN : R.length = N := by omega
       obtain ⟨r, hr⟩ := get_some hlc
       have hrl := hsq.row r (List.mem_of_getElem? hr)
       have hrN : r.length = N := by omega
       have hnu : ¬ c < c := by omega
       repeat' first | refine pw_seq ?_ | refine pw_skip ?_ | refine pw_ret ?_ | refine pw_exit ?_ | refine pw_block ?_ | refine pw_region (fun _ => false) hmix ?_ | (refine wpG_split rfl rfl (fun hc => ?_) (fun hc => ?_) <;> try simp only [hcL, reduceCtorEq] at hc) | (refine pw_cond _ rfl rfl (fun hc => ?_) (fun hc => ?_) <;> (try simp only [hcL, reduceCtorEq] at hc) <;> try (exfalso; omega)) | simp (maxSteps := 1000000) (disch := omega) only [go_sem, simprocAttr, hr, hrN] | apply And.intro | omega | decide +kernel
       refine pw_loopF (κ := Nat) (fun (b : Nat) => b ≤ N) (fun (b : Nat) => [(1, .int i), (2, .ptr 2 0 0 0), (5, .ref 19 1 0 N N), (9, .int c), (36, .d (.sl F)), (37, .int 2), (38, .int t), (45, .d (listsD R)), (46, .int R.length), (47, .int c), (52, .d (intsD r)), (53, .int N), (54, .int b)]) (fun (b : Nat) => [⟨1, 19, 1, N, fun k => if k < c then (rowG (A (t + 1) k) N).map D.int else if k = c then (mixR (A t c) (A (t + 1) c) N b).map D.int else (rowG (A t k) N).map D.int⟩]) (fun (b : Nat) => [(2, .cells [.int n, .d (listsD ls), .d (arcsD ar), .d (listsD cs)])]) (fun (b : Nat) => N - b) 0 ?_ ?_ ?_
       ·exact Nat.zero_le _
       ·refine eF [] [] _ _ _ (by refine ⟨?_, ?_⟩ <;> (repeat' first | exact List.forall_mem_nil _ | refine List.forall_mem_cons.2 ⟨(by first | rfl | (simp (disch := omega) only [go_sem, simprocAttr, inL, hrN]; first | done | omega | (congr 1; done))), ?_⟩); done) ?_
        repeat' first | exact List.forall_mem_nil _ | refine List.forall_mem_cons.2 ⟨?_, ?_⟩
        all_goals refine ⟨_, (by first | rfl | (simp (disch := omega) only [go_sem, simprocAttr, hnu, mixR_zero]; done) | (simp (disch := omega) only [go_sem, simprocAttr, hnu, mixR_zero]; rfl)), fun i hi => ?_⟩
        all_goals dsimp only at hi ⊢
        all_goals rcases Decidable.em (i = c) with rfl | hi0
        all_goals try (exfalso; omega)
        all_goals try (simp (disch := omega) only [go_sem, simprocAttr, hnu, mixR_zero, fid_lit, lit_fid]; done)
        all_goals try (simp (disch := omega) only [go_sem, simprocAttr, hnu, mixR_zero, hi0, fid_lit, lit_fid]; done)
       ·intro b hb
        have hfl2 := mixR_len (A t c) (A (t + 1) c) N b
        rcases Nat.lt_or_ge b N with hlb | hgb
        ·obtain ⟨p, hp, _, hpv, g1, g2⟩ := hsq.get hlc (show b < R.length by omega)
         rw [hr, Option.some.injEq] at hp
         rw [← hp] at hpv
         have hcell := hS c b
         have ha := hacc t c b
         have hg : (mixR (A t c) (A (t + 1) c) N b)[b]? = some (A t c b) := mixR_get hlb
         have hst : (mixR (A t c) (A (t + 1) c) N b).set b (A (t + 1) c b) = mixR (A t c) (A (t + 1) c) N (b + 1) := mixR_step hlb
         rw [hcell] at hst
         refine pw_ent _ (ent_bor _ _ [2, 19] 19 c 900 1 1 N (by first | rfl | (simp (disch := omega) only [go_sem, simprocAttr, hnu, hfl2]; done) | (simp (disch := omega) only [go_sem, simprocAttr, hnu, hfl2]; rfl)) (by first | (simp (disch := omega) only [go_sem, simprocAttr, hnu, hfl2]; done) | (simp (disch := omega) only [go_sem, simprocAttr, hnu, hfl2]; rfl)) (by first | (simp (disch := omega) only [go_sem, simprocAttr, hnu, hfl2]; done) | (simp (disch := omega) only [go_sem, simprocAttr, hnu, hfl2]; rfl)) (fun i hi hne => by simp (disch := omega) only [go_sem, simprocAttr, hne, hnu, hfl2]; (repeat' split) <;> exact .ref _ _ _ _ _ ⟨by simp (disch := omega) only [go_sem, simprocAttr, hne, hnu, hfl2], by simp (disch := omega) only [go_sem, simprocAttr, hne, hnu, hfl2]⟩) (by (repeat' first | refine ab_nil ?_ | exact ab_obOf (ids := [2, 19]) rfl rfl (Nat.le_of_ble_eq_true rfl) | refine ab_hole ?_ | refine ab_row ?_ | refine ab_dead ?_ | refine ab_self ?_ | refine ab_self_fam ?_ | refine ab_fam (by dsimp only; omega) (by dsimp only; omega) (by omega) (by omega) (Nat.le_of_ble_eq_true rfl) ?_); done) rfl rfl rfl) ?_
         repeat' first | refine pw_seq ?_ | refine pw_skip ?_ | refine pw_ret ?_ | refine pw_exit ?_ | refine pw_block ?_ | refine pw_region (fun _ => false) hmix ?_ | (refine wpG_split rfl rfl (fun hc => ?_) (fun hc => ?_) <;> try simp only [hcL, reduceCtorEq] at hc) | (refine pw_cond _ rfl rfl (fun hc => ?_) (fun hc => ?_) <;> (try simp only [hcL, reduceCtorEq] at hc) <;> try (exfalso; omega)) | simp (maxSteps := 1000000) (disch := omega) only [go_sem, simprocAttr, hr, hrN, hpv, hg, hfl2, hnu] | apply And.intro | omega | decide +kernel
         refine ⟨b + 1, ?_, eF [(fid 1 c, 900)] [] _ _ _ (by refine ⟨?_, ?_⟩ <;> (repeat' first | exact List.forall_mem_nil _ | refine List.forall_mem_cons.2 ⟨(by first | rfl | (simp (disch := omega) only [go_sem, simprocAttr, inL]; first | done | omega | (congr 1; done))), ?_⟩); done) ?_, ?_⟩
         ·omega
         ·repeat' first | exact List.forall_mem_nil _ | refine List.forall_mem_cons.2 ⟨?_, ?_⟩
          all_goals refine ⟨_, (by first | rfl | (simp (disch := omega) only [go_sem, simprocAttr, hst.symm, List.map_set, List.length_set, List.length_map, hfl2, hnu]; done) | (simp (disch := omega) only [go_sem, simprocAttr, hst.symm, List.map_set, List.length_set, List.length_map, hfl2, hnu]; rfl)), fun i hi => ?_⟩
          all_goals dsimp only at hi ⊢
          all_goals rcases Decidable.em (i = c) with rfl | hi0
          all_goals try (exfalso; omega)
          all_goals try (simp (disch := omega) only [go_sem, simprocAttr, hst.symm, List.map_set, List.length_set, List.length_map, hfl2, hnu, fid_lit, lit_fid]; done)
          all_goals try (simp (disch := omega) only [go_sem, simprocAttr, hst.symm, List.map_set, List.length_set, List.length_map, hfl2, hnu, hi0, fid_lit, lit_fid]; done)
         ·omega
        ·have : N = b := by omega
         subst this
         have hsu : ∀ i, i ≠ c → ((i < c + 1) = (i < c)) := fun i h => propext (by omega)
         repeat' first | refine pw_seq ?_ | refine pw_skip ?_ | refine pw_ret ?_ | refine pw_exit ?_ | refine pw_block ?_ | refine pw_region (fun _ => false) hmix ?_ | (refine wpG_split rfl rfl (fun hc => ?_) (fun hc => ?_) <;> try simp only [hcL, reduceCtorEq] at hc) | (refine pw_cond _ rfl rfl (fun hc => ?_) (fun hc => ?_) <;> (try simp only [hcL, reduceCtorEq] at hc) <;> try (exfalso; omega)) | simp (maxSteps := 1000000) (disch := omega) only [go_sem, simprocAttr] | apply And.intro | omega | decide +kernel
         refine ⟨c + 1, ?_, eF [] [] _ _ _ (by refine ⟨?_, ?_⟩ <;> (repeat' first | exact List.forall_mem_nil _ | refine List.forall_mem_cons.2 ⟨(by first | rfl | (simp (disch := omega) only [go_sem, simprocAttr, inL]; first | done | omega | (congr 1; done))), ?_⟩); done) ?_, ?_⟩
         ·omega
         ·repeat' first | exact List.forall_mem_nil _ | refine List.forall_mem_cons.2 ⟨?_, ?_⟩
          all_goals refine ⟨_, (by first | rfl | (simp (disch := omega) only [go_sem, simprocAttr, hnu, hsu, Nat.lt_add_one, mixR_full]; done) | (simp (disch := omega) only [go_sem, simprocAttr, hnu, hsu, Nat.lt_add_one, mixR_full]; rfl)), fun i hi => ?_⟩
          all_goals dsimp only at hi ⊢
          all_goals rcases Decidable.em (i = c) with rfl | hi0
          all_goals try (exfalso; omega)
          all_goals try (simp (disch := omega) only [go_sem, simprocAttr, hnu, hsu, Nat.lt_add_one, mixR_full, fid_lit, lit_fid]; done)
          all_goals try (simp (disch := omega) only [go_sem, simprocAttr, hnu, hsu, Nat.lt_add_one, mixR_full, hi0, fid_lit, lit_fid]; done)
         ·omega
      ·have : R.length = c := by omega
       subst this
       repeat' first | refine pw_seq ?_ | refine pw_skip ?_ | refine pw_ret ?_ | refine pw_exit ?_ | refine pw_block ?_ | refine pw_region (fun _ => false) hmix ?_ | (refine wpG_split rfl rfl (fun hc => ?_) (fun hc => ?_) <;> try simp only [hcL, reduceCtorEq] at hc) | (refine pw_cond _ rfl rfl (fun hc => ?_) (fun hc => ?_) <;> (try simp only [hcL, reduceCtorEq] at hc) <;> try (exfalso; omega)) | simp (maxSteps := 1000000) (disch := omega) only [go_sem, simprocAttr] | apply And.intro | omega | decide +kernel
       rcases hml with hml | hml
       ·have hsame : ∀ k, rowG (A (t + 1) k) N = rowG (A t k) N := fun k => rowG_congr fun v _ => by
         rw [hS, cellAt, lstN_out (by omega)]; simp [at0]
        refine ⟨t + 1, ?_, eF [] [] _ _ _ (by refine ⟨?_, ?_⟩ <;> (repeat' first | exact List.forall_mem_nil _ | refine List.forall_mem_cons.2 ⟨(by first | rfl | (simp (disch := omega) only [go_sem, simprocAttr, inL]; first | done | omega | (congr 1; done))), ?_⟩); done) ?_, ?_⟩
        ·omega
        ·repeat' first | exact List.forall_mem_nil _ | refine List.forall_mem_cons.2 ⟨?_, ?_⟩
         all_goals refine ⟨_, (by first | rfl | (simp (disch := omega) only [go_sem, simprocAttr, hml, Nat.not_lt_zero, hsame]; done) | (simp (disch := omega) only [go_sem, simprocAttr, hml, Nat.not_lt_zero, hsame]; rfl)), fun i hi => ?_⟩
         all_goals dsimp only at hi ⊢
         all_goals try (exfalso; omega)
         all_goals try (simp (disch := omega) only [go_sem, simprocAttr, hml, Nat.not_lt_zero, hsame, fid_lit, lit_fid]; done)
        ·omega
       ·have hRN : R.length = N := by omega
        refine ⟨t + 1, ?_, eF [] [] _ _ _ (by refine ⟨?_, ?_⟩ <;> (repeat' first | exact List.forall_mem_nil _ | refine List.forall_mem_cons.2 ⟨(by first | rfl | (simp (disch := omega) only [go_sem, simprocAttr, inL]; first | done | omega | (congr 1; done))), ?_⟩); done) ?_, ?_⟩
        ·omega
        ·repeat' first | exact List.forall_mem_nil _ | refine List.forall_mem_cons.2 ⟨?_, ?_⟩
         all_goals refine ⟨_, (by first | rfl | (simp (disch := omega) only [go_sem, simprocAttr, hRN, hiN]; done) | (simp (disch := omega) only [go_sem, simprocAttr, hRN, hiN]; rfl)), fun i hi => ?_⟩
         all_goals dsimp only at hi ⊢
         all_goals try (exfalso; omega)
         all_goals try (simp (disch := omega) only [go_sem, simprocAttr, hRN, hiN, fid_lit, lit_fid]; done)
        ·omega
    ·have : t = 2 := by omega
     subst this
     try dsimp only
     refine pw_ent _ (ent_famRow _ _ _ _ ⟨nodup_of rfl, nodup_of rfl, (by (repeat' first | exact List.forall_mem_nil _ | refine List.forall_mem_cons.2 ⟨⟨Nat.le_of_ble_eq_true rfl, Nat.le_of_ble_eq_true rfl, by dsimp only; omega⟩, ?_⟩); done)⟩ rfl [2, 19] rfl rfl rfl rfl) ?_
     repeat' first | refine pw_seq ?_ | refine pw_skip ?_ | refine pw_ret ?_ | refine pw_exit ?_ | refine pw_block ?_ | refine pw_region (fun _ => false) hmix ?_ | (refine wpG_split rfl rfl (fun hc => ?_) (fun hc => ?_) <;> try simp only [hcL, reduceCtorEq] at hc) | (refine pw_cond _ rfl rfl (fun hc => ?_) (fun hc => ?_) <;> (try simp only [hcL, reduceCtorEq] at hc) <;> try (exfalso; omega)) | simp (maxSteps := 1000000) (disch := omega) only [go_sem, simprocAttr] | apply And.intro | omega | decide +kernel
     refine ret_ref (o := 19) rfl rfl (by simp) ?_
     rw [List.take_of_length_le (by simp), sqM, List.map_map]
     rfl
end Go.Proofs.YtldbcbclhpcofaaGreat
