/- Levels built: what Build computes. -/
import Derived.Test.YtpmmikkojpcogaaA
namespace Go.Proofs.Ytpmmikkojpcogaa
open Go Go.PS Go.Proofs
set_option maxRecDepth 100000
set_option linter.unusedSimpArgs false
set_option linter.unusedVariables false
attribute [local irreducible] wpRun wpG CallsTo CallsM

def at0 (r : List Int) (v : Int) : Int := (r[v.toNat]?).getD 0
theorem at0_get {r : List Int} {v : Int} (h1 : 0 ≤ v) (h2 : v < r.length) : r[v.toNat]? = some (at0 r v) := by
  obtain ⟨x, hx⟩ := get_some (show v.toNat < r.length by omega)
  rw [at0, hx]; rfl
theorem at0_at {r : List Int} {i : Nat} (h : i < r.length) : r[i]? = some (at0 r i) := by
  obtain ⟨x, hx⟩ := get_some h
  rw [at0, Int.toNat_natCast, hx]; rfl
def maxN (l : List Int) : Nat → Int
  | 0 => at0 l 0
  | k + 1 => max (maxN l k) (at0 l ((k + 1 : Nat) : Int))
theorem maxN_ge (l : List Int) : ∀ (k j : Nat), j ≤ k → at0 l j ≤ maxN l k
  | 0, j, h => by rw [show j = 0 by omega]; exact Int.le_refl _
  | k + 1, j, h => by
    rw [maxN]
    rcases Nat.lt_or_ge j (k + 1) with h1 | h1
    · have := maxN_ge l k j (by omega); omega
    · rw [show j = k + 1 by omega]; omega
theorem maxN_le {l : List Int} {m : Int} (h : ∀ j : Nat, at0 l j ≤ m) : ∀ k, maxN l k ≤ m
  | 0 => h 0
  | k + 1 => by rw [maxN]; have := maxN_le h k; have := h (k + 1); omega
theorem ite_max (a b : Int) : (if a < b then b else a) = max a b := by omega
theorem Max_spec (l : List Int) (hl : 0 < l.length) : CallsTo Try.prog 48 [intsD l] (.int (maxN l (l.length - 1))) := by
  refine callsTo_of Try.func48 rfl (by decide +kernel) (Nat.le_of_ble_eq_true rfl) ?_
  intro hat B X w0
  have hll := at_len 0 hat rfl
  rw [List.length_map] at hll
  have g0 := at0_at hl
  repeat' first
    | refine pw_seq ?_
    | refine pw_skip ?_
    | refine pw_ret ?_
    | refine pw_exit ?_
    | refine pw_block ?_
    | refine pw_region (fun _ => false) hmix ?_
    | (refine wpG_split rfl rfl (fun hc => ?_) (fun hc => ?_) <;> try simp only [decide_eq_true_eq, decide_eq_false_iff_not, Bool.not_eq_true', Bool.not_eq_false', Bool.false_eq_true, Bool.true_eq_false, reduceCtorEq, Bool.and_eq_true, Bool.or_eq_true, not_and, not_or] at hc)
    | (refine pw_cond _ rfl rfl (fun hc => ?_) (fun hc => ?_) <;> (try simp only [decide_eq_true_eq, decide_eq_false_iff_not, Bool.not_eq_true', Bool.not_eq_false', Bool.false_eq_true, Bool.true_eq_false, reduceCtorEq, Bool.and_eq_true, Bool.or_eq_true, not_and, not_or] at hc) <;> try (exfalso; omega))
    | simp (maxSteps := 1000000) (disch := omega) only [go_sem, Nat.reduceEqDiff, ↓reduceIte, Nat.reduceLT, Nat.reduceAdd, Nat.reduceSub, Nat.reduceLeDiff, Nat.reduceMul, Int.reduceToNat, reduceCtorEq, g0]
    | apply And.intro
    | omega
    | decide +kernel
  refine pw_loopI (κ := Nat) (fun (k : Nat) => k + 1 ≤ l.length) (fun (k : Nat) => [(0, .d (intsD l)), (3, .int (maxN l k)), (4, .int ((k : Int) + 1))]) (fun (k : Nat) => []) (fun (k : Nat) => l.length - k) 0 ?_ ?_ ?_
  · omega
  · exact entL_ren [] _ _ (by (repeat' first | exact List.forall_mem_nil _ | refine List.forall_mem_cons.2 ⟨(by first | rfl | (simp (disch := omega) only [go_sem, Nat.reduceEqDiff, ↓reduceIte, Nat.reduceLT, Nat.reduceAdd, Nat.reduceSub, Nat.reduceLeDiff, Nat.reduceMul, Int.reduceToNat, reduceCtorEq, maxN, PV.d.injEq, PV.ref.injEq, D.sc.injEq, Value.int.injEq, Value.bool.injEq, Ob.row.injEq, true_and, and_true]; first | done | omega | (congr 1; done))), ?_⟩); done) (by (repeat' first | exact List.forall_mem_nil _ | refine List.forall_mem_cons.2 ⟨(by first | rfl | (simp (disch := omega) only [go_sem, Nat.reduceEqDiff, ↓reduceIte, Nat.reduceLT, Nat.reduceAdd, Nat.reduceSub, Nat.reduceLeDiff, Nat.reduceMul, Int.reduceToNat, reduceCtorEq, maxN, PV.d.injEq, PV.ref.injEq, D.sc.injEq, Value.int.injEq, Value.bool.injEq, Ob.row.injEq, true_and, and_true]; first | done | omega | (congr 1; done))), ?_⟩); done) rfl rfl (nodup_of rfl) rfl (by (repeat' first | exact pd_of _ rfl | exact pd_dead | refine pd_upd rfl ?_ | refine pd_frz ?_); done)
  · intro k hk
    rcases Nat.lt_or_ge (k + 1) l.length with hlt | hge
    · have gk := at0_at hlt
      have e : (((k : Int) + 1)).toNat = k + 1 := by omega
      repeat' first
        | refine pw_seq ?_
        | refine pw_skip ?_
        | refine pw_ret ?_
        | refine pw_exit ?_
        | refine pw_block ?_
        | refine pw_region (fun _ => false) hmix ?_
        | (refine wpG_split rfl rfl (fun hc => ?_) (fun hc => ?_) <;> try simp only [decide_eq_true_eq, decide_eq_false_iff_not, Bool.not_eq_true', Bool.not_eq_false', Bool.false_eq_true, Bool.true_eq_false, reduceCtorEq, Bool.and_eq_true, Bool.or_eq_true, not_and, not_or] at hc)
        | (refine pw_cond _ rfl rfl (fun hc => ?_) (fun hc => ?_) <;> (try simp only [decide_eq_true_eq, decide_eq_false_iff_not, Bool.not_eq_true', Bool.not_eq_false', Bool.false_eq_true, Bool.true_eq_false, reduceCtorEq, Bool.and_eq_true, Bool.or_eq_true, not_and, not_or] at hc) <;> try (exfalso; omega))
        | simp (maxSteps := 1000000) (disch := omega) only [go_sem, Nat.reduceEqDiff, ↓reduceIte, Nat.reduceLT, Nat.reduceAdd, Nat.reduceSub, Nat.reduceLeDiff, Nat.reduceMul, Int.reduceToNat, reduceCtorEq, gk, e, ite_max]
        | apply And.intro
        | omega
        | decide +kernel
      refine ⟨k + 1, ?_, entL_ren [] _ _ (by (repeat' first | exact List.forall_mem_nil _ | refine List.forall_mem_cons.2 ⟨(by first | rfl | (simp (disch := omega) only [go_sem, Nat.reduceEqDiff, ↓reduceIte, Nat.reduceLT, Nat.reduceAdd, Nat.reduceSub, Nat.reduceLeDiff, Nat.reduceMul, Int.reduceToNat, reduceCtorEq, maxN, Int.natCast_add, Int.natCast_one, PV.d.injEq, PV.ref.injEq, D.sc.injEq, Value.int.injEq, Value.bool.injEq, Ob.row.injEq, true_and, and_true]; first | done | omega | (congr 1; done))), ?_⟩); done) (by (repeat' first | exact List.forall_mem_nil _ | refine List.forall_mem_cons.2 ⟨(by first | rfl | (simp (disch := omega) only [go_sem, Nat.reduceEqDiff, ↓reduceIte, Nat.reduceLT, Nat.reduceAdd, Nat.reduceSub, Nat.reduceLeDiff, Nat.reduceMul, Int.reduceToNat, reduceCtorEq, maxN, Int.natCast_add, Int.natCast_one, PV.d.injEq, PV.ref.injEq, D.sc.injEq, Value.int.injEq, Value.bool.injEq, Ob.row.injEq, true_and, and_true]; first | done | omega | (congr 1; done))), ?_⟩); done) rfl rfl (nodup_of rfl) rfl (by (repeat' first | exact pd_of _ rfl | exact pd_dead | refine pd_upd rfl ?_ | refine pd_frz ?_); done), ?_⟩
      · omega
      · omega
    · repeat' first
        | refine pw_seq ?_
        | refine pw_skip ?_
        | refine pw_ret ?_
        | refine pw_exit ?_
        | refine pw_block ?_
        | refine pw_region (fun _ => false) hmix ?_
        | (refine wpG_split rfl rfl (fun hc => ?_) (fun hc => ?_) <;> try simp only [decide_eq_true_eq, decide_eq_false_iff_not, Bool.not_eq_true', Bool.not_eq_false', Bool.false_eq_true, Bool.true_eq_false, reduceCtorEq, Bool.and_eq_true, Bool.or_eq_true, not_and, not_or] at hc)
        | (refine pw_cond _ rfl rfl (fun hc => ?_) (fun hc => ?_) <;> (try simp only [decide_eq_true_eq, decide_eq_false_iff_not, Bool.not_eq_true', Bool.not_eq_false', Bool.false_eq_true, Bool.true_eq_false, reduceCtorEq, Bool.and_eq_true, Bool.or_eq_true, not_and, not_or] at hc) <;> try (exfalso; omega))
        | simp (maxSteps := 1000000) (disch := omega) only [go_sem, Nat.reduceEqDiff, ↓reduceIte, Nat.reduceLT, Nat.reduceAdd, Nat.reduceSub, Nat.reduceLeDiff, Nat.reduceMul, Int.reduceToNat, reduceCtorEq]
        | apply And.intro
        | omega
        | decide +kernel
      have : l.length - 1 = k := by omega
      rw [this]; rfl

abbrev Lv := Int × List (List Int) × List Arc × List (List Int)
abbrev lvD (v : Lv) : D := .ag [.int v.1, listsD v.2.1, arcsD v.2.2.1, listsD v.2.2.2]
def lv0 : Lv := (0, [], [], [])
/-- The vertices (by number) that have rank k. -/
def layerOf (all : List Int) (k : Nat) : List Int := ((List.range all.length).filter fun v => decide (all[v]? = some (k : Int))).map fun v : Nat => (v : Int)
theorem layerOf_snoc (all : List Int) (x : Int) (k : Nat) : layerOf (all ++ [x]) k = if x = k then layerOf all k ++ [(all.length : Int)] else layerOf all k := by
  rw [layerOf, List.length_append, List.length_singleton, List.range_succ, List.filter_append, List.map_append]
  have e : (List.range all.length).filter (fun v => decide ((all ++ [x])[v]? = some (k : Int))) = (List.range all.length).filter fun v => decide (all[v]? = some (k : Int)) := by
    refine List.filter_congr fun v hv => ?_
    rw [List.getElem?_append_left (List.mem_range.1 hv)]
  rw [e]
  by_cases h : x = k
  · rw [if_pos h]; simp [layerOf, h]
  · rw [if_neg h]; simp [layerOf, h]
theorem layerOf_len (all : List Int) (k : Nat) : (layerOf all k).length ≤ all.length := by
  rw [layerOf, List.length_map]
  exact Nat.le_trans (List.length_filter_le _ _) (by simp)
/-- How many vertices are laid between the ends of an arc. -/
def gapN (r : List Int) (a : Arc) : Nat := (at0 r a.2 - at0 r a.1 - 1).toNat
def news (r : List Int) (a : Arc) (i : Nat) : List Int := (List.range i).map fun j : Nat => at0 r a.1 + 1 + j
theorem news_succ (r : List Int) (a : Arc) (i : Nat) : news r a (i + 1) = news r a i ++ [at0 r a.1 + 1 + i] := by simp [news, List.range_succ]
theorem news_len (r : List Int) (a : Arc) (i : Nat) : (news r a i).length = i := by simp [news]
def allR (r : List Int) (l : List Arc) (e : Nat) : List Int := r ++ (l.take e).flatMap fun a => news r a (gapN r a)
theorem allR_succ {r : List Int} {l : List Arc} {e : Nat} {a : Arc} (h : l[e]? = some a) : allR r l (e + 1) = allR r l e ++ news r a (gapN r a) := by
  simp [allR, take_snoc h]
/-- A chain: the ends, and the new numbers between them. -/
def chainUp (n0 : Nat) (a : Arc) (i : Nat) : List Int := a.1 :: (List.range i).map fun j : Nat => ((n0 + j : Nat) : Int)
theorem chainUp_succ (n0 : Nat) (a : Arc) (i : Nat) : chainUp n0 a (i + 1) = chainUp n0 a i ++ [((n0 + i : Nat) : Int)] := by simp [chainUp, List.range_succ]
theorem chainUp_len (n0 : Nat) (a : Arc) (i : Nat) : (chainUp n0 a i).length = i + 1 := by simp [chainUp]
def chainOf (r : List Int) (n0 : Nat) (a : Arc) : List Int := chainUp n0 a (gapN r a) ++ [a.2]
theorem chainOf_len (r : List Int) (n0 : Nat) (a : Arc) : (chainOf r n0 a).length = gapN r a + 2 := by simp [chainOf, chainUp_len]
def pairAt (c : List Int) (j : Nat) : Arc := (at0 c j, at0 c ((j + 1 : Nat) : Int))
def pairsN (c : List Int) (j : Nat) : List Arc := (List.range j).map (pairAt c)
theorem pairsN_succ (c : List Int) (j : Nat) : pairsN c (j + 1) = pairsN c j ++ [pairAt c j] := by simp [pairsN, List.range_succ]
theorem pairsN_len (c : List Int) (j : Nat) : (pairsN c j).length = j := by simp [pairsN]
def chainAt (r : List Int) (l : List Arc) (e : Nat) : List (List Int) := match l[e]? with
  | some a => [chainOf r (allR r l e).length a]
  | none => []
def chainsF (r : List Int) (l : List Arc) (e : Nat) : List (List Int) := catN (chainAt r l) e
def arcsAt (r : List Int) (l : List Arc) (e : Nat) : List Arc := match l[e]? with
  | some a => pairsN (chainOf r (allR r l e).length a) (gapN r a + 1)
  | none => []
def arcsF (r : List Int) (l : List Arc) (e : Nat) : List Arc := catN (arcsAt r l) e
def madeF (g : Gr) (r : List Int) : Lv :=
  (g.1, if g.1 = 0 then [] else (List.range (maxN r (r.length - 1) + 1).toNat).map fun k => layerOf (allR r g.2 g.2.length) k, arcsF r g.2 g.2.length, chainsF r g.2 g.2.length)
def sumG (r : List Int) (l : List Arc) : Nat → Int
  | 0 => 0
  | k + 1 => sumG r l k + match l[k]? with | some a => at0 r a.2 - at0 r a.1 - 1 | none => 0
def upward (r : List Int) (a : Arc) : Bool := decide (at0 r a.2 - at0 r a.1 - 1 < 0)
def ranksOk (g : Gr) (r : List Int) : Bool := gOk g && decide ((r.length : Int) = g.1) && !r.any rankBad
def buildF (g : Gr) (r : List Int) : Lv × Int :=
  if ranksOk g r = false then (lv0, 1) else if g.2.any loopF then (lv0, 8) else if g.2.any (upward r) then (lv0, 3)
  else if 512 < g.1 + sumG r g.2 g.2.length then (lv0, 2) else (madeF g r, 0)
end Go.Proofs.Ytpmmikkojpcogaa
