/- The longest ways, walked. -/
import Derived.Test.YthbcmebhpabpnaaM
set_option linter.unusedSimpArgs false
set_option linter.unusedVariables false
namespace Go.Proofs.Ythbcmebhpabpnaa.Sx
open Go Go.PS Go.Proofs
set_option maxRecDepth 100000
attribute [local irreducible] wpRun wpG CallsTo CallsM

theorem relax_no {v : Int} {σ : LS} {s : Stp} (h : ¬ (wAt σ.1 s.1).1 < (wAt σ.1 v).1 + s.2.1) : relax v σ s = σ := by rw [relax, if_neg h]
theorem relax_w {v : Int} {σ : LS} {s : Stp} (h : (wAt σ.1 s.1).1 < (wAt σ.1 v).1 + s.2.1) (hb : bAt σ.2.1 s.1 = true) :
  relax v σ s = (σ.1.set s.1.toNat ((wAt σ.1 v).1 + s.2.1, v, s, false), σ.2.1, σ.2.2) := by rw [relax, if_pos h, if_pos hb]
theorem relax_n {v : Int} {σ : LS} {s : Stp} (h : (wAt σ.1 s.1).1 < (wAt σ.1 v).1 + s.2.1) (hb : bAt σ.2.1 s.1 = false) :
  relax v σ s = (σ.1.set s.1.toNat ((wAt σ.1 v).1 + s.2.1, v, s, false), σ.2.1.set s.1.toNat true, σ.2.2 ++ [s.1]) := by
 rw [relax, if_pos h, if_neg (by rw [hb]; exact Bool.false_ne_true)]
abbrev waysD (W : List Way) : List D := W.map wayD
abbrev boolsD (B : List Bool) : List D := B.map D.bool
abbrev intsL (l : List Int) : List D := l.map D.int
def noneRow (n k : Nat) : List Way := (List.range n).map fun u => if u < k then wayN else way0
theorem noneRow_len (n k : Nat) : (noneRow n k).length = n := by simp [noneRow]
theorem noneRow_get {n k u : Nat} (h : u < n) : (noneRow n k)[u]? = some (if u < k then wayN else way0) := by simp [noneRow, h]
theorem noneRow_zero (n : Nat) : waysD (noneRow n 0) = List.replicate n (wayD way0) := by
 rw [List.eq_replicate_iff]
 refine ⟨by simp [noneRow], fun b hb => ?_⟩
 simp only [noneRow, List.map_map, List.mem_map, waysD] at hb
 obtain ⟨u, _, rfl⟩ := hb
 simp
theorem noneRow_step {n k : Nat} (h : k < n) : (noneRow n k).set k wayN = noneRow n (k + 1) := by
 refine List.ext_getElem? fun u => ?_
 by_cases hu : u < n
 ·rw [noneRow_get hu, List.getElem?_set, noneRow_get hu, noneRow_len]
  by_cases c : k = u
  ·subst c; rw [if_pos rfl, if_pos h, if_pos (by omega)]
  ·rw [if_neg c]
   by_cases c2 : u < k
   ·rw [if_pos c2, if_pos (by omega)]
   ·rw [if_neg c2, if_neg (by omega)]
 ·rw [List.getElem?_eq_none (by rw [List.length_set, noneRow_len]; omega), List.getElem?_eq_none (by rw [noneRow_len]; omega)]
theorem noneRow_end (n : Nat) (st : List Int) : noneRow n n = startW n st 0 := by
 refine List.ext_getElem? fun u => ?_
 by_cases hu : u < n
 ·rw [noneRow_get hu, if_pos hu]; simp [startW, hu]
 ·rw [List.getElem?_eq_none (by rw [noneRow_len]; omega), List.getElem?_eq_none (by rw [startW_len]; omega)]
def stepsL (l : List Bd) (f : List Int) (v : Nat) : List Stp := stepsAt l f v l.length
theorem stepsL_good {n : Nat} {l : List Bd} {f : List Int}
  (hb : ∀ (k : Nat) b, l[k]? = some b → 0 ≤ b.1 ∧ b.1 < n ∧ 0 ≤ b.2.1 ∧ b.2.1 < n ∧ b.1 ≠ b.2.1 ∧ -16777216 ≤ b.2.2.1 ∧ b.2.2.1 ≤ 16777216) (v : Nat) : GoodS n v (stepsL l f v) := by
 have key : ∀ k, GoodS n v (stepsAt l f v k) := by
  intro k
  induction k with
  | zero => intro s hs; simp [stepsAt, catN] at hs
  | succ k ih =>
   intro s hs
   simp only [stepsAt, catN] at hs
   rcases List.mem_append.1 hs with hs | hs
   ·exact ih s hs
   ·rw [stepsOf] at hs
    split at hs
    ·rename_i b hbk
     have := hb k b hbk
     rcases List.mem_append.1 hs with hs | hs
     ·split at hs
      ·rw [List.mem_singleton.1 hs]; dsimp only; omega
      ·simp at hs
     ·split at hs
      ·rw [List.mem_singleton.1 hs]; dsimp only; omega
      ·simp at hs
    ·simp at hs
 exact key _
theorem mid_zero (ST : Nat → List Stp) (σ : LS) : midN ST σ 0 = (σ.1, σ.2.1, []) := rfl
theorem inner_zero (L : List Stp) (v : Int) (σ : LS) : inner L v σ 0 = (σ.1, σ.2.1.set v.toNat false, σ.2.2) := rfl
set_option maxHeartbeats 16000000 in
theorem longest_spec (n : Nat) (l : List Bd) (f : List Int) (st : List Int) (hn : n ≤ 2048) (hl : l.length ≤ 4096) (hfl : f.length = l.length)
  (hb : ∀ (k : Nat) b, l[k]? = some b → 0 ≤ b.1 ∧ b.1 < n ∧ 0 ≤ b.2.1 ∧ b.2.1 < n ∧ b.1 ≠ b.2.1 ∧ -16777216 ≤ b.2.2.1 ∧ b.2.2.1 ≤ 16777216)
  (hst : ∀ x ∈ st, 0 ≤ x ∧ x < (n : Int)) (hsn : st.length ≤ n) :
  (∀ W, longestF n (stepsL l f) st = some W → CallsM Try.prog 47 [.d (pD n l f), .d (intsD st)] [(2000, .dead)] (.tup [.ref 2000 7 0 n n, .bool true]) [(2000, .row 7 (waysD W))]) ∧
  (longestF n (stepsL l f) st = none → CallsM Try.prog 47 [.d (pD n l f), .d (intsD st)] [(2000, .dead)] (.tup [.nilS, .bool false]) [(2000, .dead)]) := by
 have hsteps := steps_spec n l f hn hl hfl hb
 have hSL : ∀ v : Nat, v < n → GoodS n v (stepsL l f v) := fun v _ => stepsL_good hb v
 have hgood := iter_good hn (state0_good hst) hsn hSL
 have main : ∀ (r : PV) (ob : Ob), (match longestF n (stepsL l f) st with | some W => r = .tup [.ref 2000 7 0 n n, .bool true] ∧ ob = .row 7 (waysD W) | none => r = .tup [.nilS, .bool false] ∧ ob = .dead) →
   CallsM Try.prog 47 [.d (pD n l f), .d (intsD st)] [(2000, .dead)] r [(2000, ob)] := by
  intro r ob hro
  have hr1 : r.only [2000] 4 = true := by
   revert hro; split <;> (rintro ⟨rfl, rfl⟩; rfl)
  have hr2 : ob.only [2000] = true := by
   revert hro; split <;> (rintro ⟨rfl, rfl⟩; rfl)
  refine callsM_of Try.func47 rfl (by decide +kernel) (Nat.le_of_ble_eq_true rfl) rfl (nodup_of rfl) hr1 (by simp [hr2]) rfl ?_
  intro B X w0
  repeat' first | refine pw_step rfl ?_ | refine pw_ret ?_ | refine wR ?_ | (refine rc (hsteps) rfl ?_ ?_; (· first | rfl | simp (disch := omega) only [go_sem, simprocAttr])) | (refine wpG_split rfl rfl (fun hc => ?_) (fun hc => ?_) <;> try simp only [hcL] at hc) | (refine pw_cond _ rfl rfl (fun hc => ?_) (fun hc => ?_) <;> (try simp only [hcL] at hc) <;> try omega) | simp (disch := omega) only [go_sem, simprocAttr] | apply And.intro | omega | decide +kernel
  refine pw_loopI (κ := Nat) (fun (k : Nat) => k ≤ n) (fun (k : Nat) => [(0, .d (pD n l f)), (1, .d (intsD st)), (6, .d (.sl (stepsR n l f))), (7, .ref 27 7 0 n n), (29, .int n), (30, .int k)]) (fun (k : Nat) => [(27, .row 7 (waysD (noneRow n k)))]) (fun (k : Nat) => n - k) 0 ?_ ?_ ?_
  ·exact Nat.zero_le _
  ·exact eL [] _ _ (by refine ⟨?_, ?_⟩ <;> (repeat' first | exact fmn | refine fmc ⟨(by first | rfl | (simp (disch := omega) only [go_sem, simprocAttr, inL, noneRow_zero, way0]; first | done | omega | (congr 1; done))), ?_⟩); done)
  ·intro k hk
   have hlen := noneRow_len n k
   rcases Nat.lt_or_ge k n with hlt | hge
   ·have hg : (noneRow n k)[k]? = some way0 := by rw [noneRow_get hlt, if_neg (by omega)]
    have hstp := noneRow_step hlt
    repeat' first | refine pw_step rfl ?_ | refine pw_ret ?_ | refine wR ?_ | (refine wpG_split rfl rfl (fun hc => ?_) (fun hc => ?_) <;> try simp only [hcL] at hc) | (refine pw_cond _ rfl rfl (fun hc => ?_) (fun hc => ?_) <;> (try simp only [hcL] at hc) <;> try omega) | simp (disch := omega) only [go_sem, simprocAttr, hg, hlen, way0] | apply And.intro | omega | decide +kernel
    refine ⟨k + 1, ?_, eL [] _ _ (by refine ⟨?_, ?_⟩ <;> (repeat' first | exact fmn | refine fmc ⟨(by first | rfl | (simp (disch := omega) only [go_sem, simprocAttr, inL, hstp.symm, List.map_set, wayN]; first | done | omega | (congr 1; done))), ?_⟩); done), ?_⟩
    ·omega
    ·omega
   ·repeat' first | refine pw_step rfl ?_ | refine wR ?_ | (refine wpG_split rfl rfl (fun hc => ?_) (fun hc => ?_) <;> try simp only [hcL] at hc) | (refine pw_cond _ rfl rfl (fun hc => ?_) (fun hc => ?_) <;> (try simp only [hcL] at hc) <;> try omega) | simp (disch := omega) only [go_sem, simprocAttr] | apply And.intro | omega | decide +kernel
    have : k = n := by omega
    subst this
    rw [noneRow_end k st]
    refine pw_loopI (κ := Nat) (fun (j : Nat) => j ≤ st.length) (fun (j : Nat) => [(0, .d (pD k l f)), (1, .d (intsD st)), (6, .d (.sl (stepsR k l f))), (7, .ref 27 7 0 k k), (38, .d (intsD st)), (39, .int st.length), (40, .int j)]) (fun (j : Nat) => [(27, .row 7 (waysD (startW k st j)))]) (fun (j : Nat) => st.length - j) 0 ?_ ?_ ?_
    ·exact Nat.zero_le _
    ·exact eL [] _ _ (by refine ⟨?_, ?_⟩ <;> (repeat' first | exact fmn | refine fmc ⟨(by first | rfl | (simp (disch := omega) only [go_sem, simprocAttr, inL]; first | done | omega | (congr 1; done))), ?_⟩); done)
    ·intro j hj
     have hlen := startW_len k st j
     rcases Nat.lt_or_ge j st.length with hlt | hge2
     ·obtain ⟨x, hx⟩ := get_some hlt
      have hxi := hst x (List.mem_of_getElem? hx)
      have hsu := startW_succ (n := k) hx
      obtain ⟨v, rfl⟩ : ∃ v : Nat, x = v := ⟨x.toNat, by omega⟩
      have hg : (startW k st j)[v]? = some (wAt (startW k st j) v) := wAt_get (v := (v : Int)) hlen (by omega) (by omega)
      rw [Int.toNat_natCast] at hsu
      repeat' first | refine pw_step rfl ?_ | refine pw_ret ?_ | refine wR ?_ | (refine wpG_split rfl rfl (fun hc => ?_) (fun hc => ?_) <;> try simp only [hcL] at hc) | (refine pw_cond _ rfl rfl (fun hc => ?_) (fun hc => ?_) <;> (try simp only [hcL] at hc) <;> try omega) | simp (disch := omega) only [go_sem, simprocAttr, hx, hg, hlen] | apply And.intro | omega | decide +kernel
      refine ⟨j + 1, ?_, eL [] _ _ (by refine ⟨?_, ?_⟩ <;> (repeat' first | exact fmn | refine fmc ⟨(by first | rfl | (simp (disch := omega) only [go_sem, simprocAttr, inL, hsu, List.map_set, wayB]; first | done | omega | (congr 1; done))), ?_⟩); done), ?_⟩
      ·omega
      ·omega
     ·repeat' first | refine pw_step rfl ?_ | refine wR ?_ | (refine wpG_split rfl rfl (fun hc => ?_) (fun hc => ?_) <;> try simp only [hcL] at hc) | (refine pw_cond _ rfl rfl (fun hc => ?_) (fun hc => ?_) <;> (try simp only [hcL] at hc) <;> try omega) | simp (disch := omega) only [go_sem, simprocAttr] | apply And.intro | omega | decide +kernel
      have : j = st.length := by omega
      subst this
      refine pw_loopI (κ := Nat) (fun (q : Nat) => match q with | k' => k' ≤ k + 1 ∧ firstN (fun i => (iterL (stepsL l f) (state0 k st) i).2.2.isEmpty) k' = none) (fun (q : Nat) => match q with | k' => [(0, .d (pD k l f)), (6, .d (.sl (stepsR k l f))), (7, .ref 27 7 0 k k), (11, .d (intsD (iterL (stepsL l f) (state0 k st) k').2.2)), (12, .ref 55 1 0 k k), (13, .int k')]) (fun (q : Nat) => match q with | k' => [(27, .row 7 (waysD (iterL (stepsL l f) (state0 k st) k').1)), (55, .row 1 (boolsD (iterL (stepsL l f) (state0 k st) k').2.1))]) (fun (q : Nat) => match q with | k' => k + 1 - k') 0 ?_ ?_ ?_
      ·exact ⟨Nat.zero_le _, rfl⟩
      ·exact eL [] _ _ (by refine ⟨?_, ?_⟩ <;> (repeat' first | exact fmn | refine fmc ⟨(by first | rfl | (simp (disch := omega) only [go_sem, simprocAttr, inL, iterL, state0, List.map_replicate]; first | done | omega | (congr 1; done))), ?_⟩); done)
      ·rintro m ⟨hm, hfirst⟩
       obtain ⟨hG, hqn⟩ := hgood m hm
       have hit : iterL (stepsL l f) (state0 k st) (m + 1) = midN (stepsL l f) (iterL (stepsL l f) (state0 k st) m) (iterL (stepsL l f) (state0 k st) m).2.2.length := rfl
       have hend : (iterL (stepsL l f) (state0 k st) m).2.2.isEmpty = true → longestF k (stepsL l f) st = some (iterL (stepsL l f) (state0 k st) m).1 := fun h => by
        rw [longestF, endL, firstN_at (by omega) hfirst h]; rfl
       have hnx : (iterL (stepsL l f) (state0 k st) m).2.2.isEmpty = false → firstN (fun i => (iterL (stepsL l f) (state0 k st) i).2.2.isEmpty) (m + 1) = none := fun h => firstN_succ hfirst h
       try dsimp only
       generalize iterL (stepsL l f) (state0 k st) m = σ at hG hqn hit hend hnx ⊢
       have hq40 : k * (m + 1) ≤ 2048 * 2050 := Nat.mul_le_mul hn (by omega)
       rcases hem : σ.2.2.isEmpty with _ | _
       ·have hpos : 0 < σ.2.2.length := by
         rcases Nat.eq_zero_or_pos σ.2.2.length with h | h
         ·rw [List.length_eq_zero_iff.1 h] at hem; cases hem
         ·exact h
        rcases Nat.lt_or_ge k m with hbig | hsmall
        ·have e : longestF k (stepsL l f) st = none := by
          have : m + 1 = k + 2 := by omega
          have h2 := hnx hem
          rw [this] at h2
          rw [longestF, endL, h2]; rfl
         rw [e] at hro
         obtain ⟨rfl, rfl⟩ := hro
         repeat' first | refine pw_step rfl ?_ | refine wR ?_ | (refine wpG_split rfl rfl (fun hc => ?_) (fun hc => ?_) <;> try simp only [hcL] at hc) | (refine pw_cond _ rfl rfl (fun hc => ?_) (fun hc => ?_) <;> (try simp only [hcL] at hc) <;> try omega) | simp (disch := omega) only [go_sem, simprocAttr] | apply And.intro | omega | decide +kernel
         refine eR [(2000, 900)] [(4, .nilS), (5, .bool false)] [(2000, .dead)] (by refine ⟨?_, ?_⟩ <;> (repeat' first | exact fmn | refine fmc ⟨(by first | rfl | (simp (disch := omega) only [go_sem, simprocAttr, inL]; first | done | omega | (congr 1; done))), ?_⟩); done) ?_
         refine pw_ret ?_
         exact ⟨⟨_, rfl, rfl, rfl, trivial⟩, List.forall_mem_cons.2 ⟨rfl, List.forall_mem_nil _⟩⟩
        ·repeat' first | refine pw_step rfl ?_ | refine wR ?_ | (refine wpG_split rfl rfl (fun hc => ?_) (fun hc => ?_) <;> try simp only [hcL] at hc) | (refine pw_cond _ rfl rfl (fun hc => ?_) (fun hc => ?_) <;> (try simp only [hcL] at hc) <;> try omega) | simp (disch := omega) only [go_sem, simprocAttr] | apply And.intro | omega | decide +kernel
         refine pw_ent _ (ent_nil 14 900 1 rfl rfl) ?_
         refine pw_loopI (κ := Nat) (fun (j : Nat) => j ≤ σ.2.2.length) (fun (j : Nat) => [(0, .d (pD k l f)), (6, .d (.sl (stepsR k l f))), (7, .ref 27 7 0 k k), (12, .ref 55 1 0 k k), (13, .int ((m : Int) + 1)), (14, .ref 900 1 0 (midN (stepsL l f) σ j).2.2.length (midN (stepsL l f) σ j).2.2.length), (68, .d (intsD σ.2.2)), (69, .int σ.2.2.length), (70, .int j)]) (fun (j : Nat) => [(27, .row 7 (waysD (midN (stepsL l f) σ j).1)), (55, .row 1 (boolsD (midN (stepsL l f) σ j).2.1)), (900, .row 1 (intsL (midN (stepsL l f) σ j).2.2))]) (fun (j : Nat) => σ.2.2.length - j) 0 ?_ ?_ ?_
         ·exact Nat.zero_le _
         ·exact eL [] _ _ (by refine ⟨?_, ?_⟩ <;> (repeat' first | exact fmn | refine fmc ⟨(by first | rfl | (simp (disch := omega) only [go_sem, simprocAttr, inL, mid_zero]; first | done | omega | (congr 1; done))), ?_⟩); done)
         ·intro j hj
          rcases Nat.lt_or_ge j σ.2.2.length with hjl | hjg
          ·obtain ⟨x, hx⟩ := get_some hjl
           have hxi := hG.2.2.1 x (List.mem_of_getElem? hx)
           obtain ⟨v, rfl⟩ : ∃ v : Nat, x = v := ⟨x.toNat, by omega⟩
           have hmg := mid_good hG hSL j (by omega)
           have hin := inner_good hmg (v := (v : Int)) (L := stepsL l f v) (by omega) (by omega) (hSL v (by omega))
           have hms := mid_succ (ST := stepsL l f) hx
           rw [Int.toNat_natCast] at hms
           have hcnt : ∀ τ : LS, Good k (70437463654400 * m + 16777216 * j + 16777216) (j + 1) τ → τ.2.2.length ≤ 4300000 := fun τ h => by
            have h1 := h.2.2.2.2
            have h2 : τ.2.1.count true ≤ k := by rw [← h.2.1]; exact List.count_le_length
            omega
           try dsimp only
           generalize midN (stepsL l f) σ j = μ at hmg hin hms ⊢
           have hs := stepsD_len l f v l.length
           have hsl : (stepsD l f l.length v) = (stepsL l f v).map stD := rfl
           have hsr : (List.map (fun v => D.sl (stepsD l f l.length v)) (List.range k))[v]? = some (.sl ((stepsL l f v).map stD)) := by simp [show v < k by omega]; rfl
           rw [hsl, List.length_map] at hs
           have gb : μ.2.1[v]? = some (bAt μ.2.1 v) := bAt_get (v := (v : Int)) hmg.2.1 (by omega) (by omega)
           have l1 := hmg.1
           have l2 := hmg.2.1
           repeat' first | refine pw_step rfl ?_ | refine pw_ret ?_ | refine wR ?_ | (refine wpG_split rfl rfl (fun hc => ?_) (fun hc => ?_) <;> try simp only [hcL] at hc) | (refine pw_cond _ rfl rfl (fun hc => ?_) (fun hc => ?_) <;> (try simp only [hcL] at hc) <;> try omega) | simp (disch := omega) only [go_sem, simprocAttr, hx, gb, l1, l2, hsr, List.length_range] | apply And.intro | omega | decide +kernel
           refine pw_loopI (κ := Nat) (fun (i : Nat) => i ≤ (stepsL l f v).length) (fun (i : Nat) => [(0, .d (pD k l f)), (6, .d (.sl (stepsR k l f))), (7, .ref 27 7 0 k k), (12, .ref 55 1 0 k k), (13, .int ((m : Int) + 1)), (14, .ref 900 1 0 (inner (stepsL l f v) v μ i).2.2.length (inner (stepsL l f v) v μ i).2.2.length), (16, .int v), (68, .d (intsD σ.2.2)), (69, .int σ.2.2.length), (70, .int j), (80, .d (.sl ((stepsL l f v).map stD))), (81, .int (stepsL l f v).length), (82, .int i)]) (fun (i : Nat) => [(27, .row 7 (waysD (inner (stepsL l f v) v μ i).1)), (55, .row 1 (boolsD (inner (stepsL l f v) v μ i).2.1)), (900, .row 1 (intsL (inner (stepsL l f v) v μ i).2.2))]) (fun (i : Nat) => (stepsL l f v).length - i) 0 ?_ ?_ ?_
           ·exact Nat.zero_le _
           ·exact eL [] _ _ (by refine ⟨?_, ?_⟩ <;> (repeat' first | exact fmn | refine fmc ⟨(by first | rfl | (simp (disch := omega) only [go_sem, simprocAttr, inL, inner_zero, List.map_set, Int.toNat_natCast]; first | done | omega | (congr 1; done))), ?_⟩); done)
           ·intro i hi
            rcases Nat.lt_or_ge i (stepsL l f v).length with hil | hig
            ·obtain ⟨s, hs2⟩ := get_some hil
             obtain ⟨hgi, hvi⟩ := hin i
             have hsi := hSL v (by omega) s (List.mem_of_getElem? hs2)
             have hns := inner_succ (v := (v : Int)) (σ := μ) hs2
             have hlq := hcnt _ hgi
             try dsimp only
             generalize inner (stepsL l f v) v μ i = τ at hgi hvi hns hlq ⊢
             obtain ⟨W, Bs, q⟩ := τ
             obtain ⟨to, len, bd, bk⟩ := s
             obtain ⟨u, rfl⟩ : ∃ u : Nat, to = u := ⟨to.toNat, by have := hsi.1; dsimp only at this; omega⟩
             dsimp only at hsi hvi hlq hns
             have g1 : W.length = k := hgi.1
             have g2 : Bs.length = k := hgi.2.1
             have gv : W[v]? = some (wAt W v) := wAt_get (v := (v : Int)) g1 (by omega) (by omega)
             have gu : W[u]? = some (wAt W u) := wAt_get (v := (u : Int)) g1 (by omega) (by omega)
             have gbu : Bs[u]? = some (bAt Bs u) := bAt_get (v := (u : Int)) g2 (by omega) (by omega)
             have bv := hgi.2.2.2.1 _ (List.mem_of_getElem? gv)
             have bu := hgi.2.2.2.1 _ (List.mem_of_getElem? gu)
             have htk : (List.map D.int q).take q.length = List.map D.int q := take_map_len _ _
             rcases Decidable.em ((wAt W u).1 < (wAt W v).1 + len) with hlt | hlt
             ·rcases hbu : bAt Bs u with _ | _
              ·rw [relax_n hlt hbu] at hns
               rw [hbu] at gbu
               dsimp only at hns
               rw [Int.toNat_natCast] at hns
               repeat' first | refine pw_step rfl ?_ | refine pw_ret ?_ | refine wR ?_ | (refine wpG_split rfl rfl (fun hc => ?_) (fun hc => ?_) <;> try simp only [hcL] at hc) | (refine pw_cond _ rfl rfl (fun hc => ?_) (fun hc => ?_) <;> (try simp only [hcL] at hc) <;> try omega) | simp (disch := omega) only [go_sem, simprocAttr, hs2, gv, gu, gbu, g1, g2, htk, roomy, List.length_set] | apply And.intro | omega | decide +kernel
               refine ⟨i + 1, ?_, eL [(900, 124)] _ _ (by refine ⟨?_, ?_⟩ <;> (repeat' first | exact fmn | refine fmc ⟨(by first | rfl | (simp (disch := omega) only [go_sem, simprocAttr, inL, hns, List.map_set, List.map_append, List.length_append]; first | done | omega | (congr 1; done))), ?_⟩); done), ?_⟩
               ·omega
               ·omega
              ·rw [relax_w hlt hbu] at hns
               rw [hbu] at gbu
               dsimp only at hns
               rw [Int.toNat_natCast] at hns
               repeat' first | refine pw_step rfl ?_ | refine pw_ret ?_ | refine wR ?_ | (refine wpG_split rfl rfl (fun hc => ?_) (fun hc => ?_) <;> try simp only [hcL] at hc) | (refine pw_cond _ rfl rfl (fun hc => ?_) (fun hc => ?_) <;> (try simp only [hcL] at hc) <;> try omega) | simp (disch := omega) only [go_sem, simprocAttr, hs2, gv, gu, gbu, g1, g2, htk, roomy, List.length_set] | apply And.intro | omega | decide +kernel
               refine ⟨i + 1, ?_, eL [] _ _ (by refine ⟨?_, ?_⟩ <;> (repeat' first | exact fmn | refine fmc ⟨(by first | rfl | (simp (disch := omega) only [go_sem, simprocAttr, inL, hns, List.map_set]; first | done | omega | (congr 1; done))), ?_⟩); done), ?_⟩
               ·omega
               ·omega
             ·rw [relax_no hlt] at hns
              repeat' first | refine pw_step rfl ?_ | refine pw_ret ?_ | refine wR ?_ | (refine wpG_split rfl rfl (fun hc => ?_) (fun hc => ?_) <;> try simp only [hcL] at hc) | (refine pw_cond _ rfl rfl (fun hc => ?_) (fun hc => ?_) <;> (try simp only [hcL] at hc) <;> try omega) | simp (disch := omega) only [go_sem, simprocAttr, hs2, gv, gu, gbu, g1, g2, htk, roomy, List.length_set] | apply And.intro | omega | decide +kernel
              refine ⟨i + 1, ?_, eL [] _ _ (by refine ⟨?_, ?_⟩ <;> (repeat' first | exact fmn | refine fmc ⟨(by first | rfl | (simp (disch := omega) only [go_sem, simprocAttr, inL, hns, List.map_set]; first | done | omega | (congr 1; done))), ?_⟩); done), ?_⟩
              ·omega
              ·omega
            ·have : i = (stepsL l f v).length := by omega
             subst this
             repeat' first | refine pw_step rfl ?_ | refine pw_ret ?_ | refine wR ?_ | (refine wpG_split rfl rfl (fun hc => ?_) (fun hc => ?_) <;> try simp only [hcL] at hc) | (refine pw_cond _ rfl rfl (fun hc => ?_) (fun hc => ?_) <;> (try simp only [hcL] at hc) <;> try omega) | simp (disch := omega) only [go_sem, simprocAttr] | apply And.intro | omega | decide +kernel
             refine ⟨j + 1, ?_, eL [] _ _ (by refine ⟨?_, ?_⟩ <;> (repeat' first | exact fmn | refine fmc ⟨(by first | rfl | (simp (disch := omega) only [go_sem, simprocAttr, inL, hms]; first | done | omega | (congr 1; done))), ?_⟩); done), ?_⟩
             ·omega
             ·omega
          ·have : j = σ.2.2.length := by omega
           subst this
           have hmg := mid_good hG hSL σ.2.2.length (Nat.le_refl _)
           rw [← hit] at hmg
           have hnx := hnx hem
           try dsimp only
           rw [← hit]
           generalize hnext : iterL (stepsL l f) (state0 k st) (m + 1) = τ at hmg ⊢
           refine pw_ent _ (ent_freeze 900 1 _ rfl (noGone_of _ rfl) (by decide)) ?_
           repeat' first | refine pw_step rfl ?_ | refine pw_ret ?_ | refine wR ?_ | (refine wpG_split rfl rfl (fun hc => ?_) (fun hc => ?_) <;> try simp only [hcL] at hc) | (refine pw_cond _ rfl rfl (fun hc => ?_) (fun hc => ?_) <;> (try simp only [hcL] at hc) <;> try omega) | simp (disch := omega) only [go_sem, simprocAttr, List.drop_zero, take_map_len] | apply And.intro | omega | decide +kernel
           refine ⟨m + 1, ?_, eL [] _ _ (by refine ⟨?_, ?_⟩ <;> (repeat' first | exact fmn | refine fmc ⟨(by first | rfl | (simp (disch := omega) only [go_sem, simprocAttr, inL, hnext, List.drop_zero, take_map_len, Int.natCast_add, Int.natCast_one]; first | done | omega | (congr 1; done))), ?_⟩); done), ?_⟩
           ·exact ⟨by omega, hnx⟩
           ·omega
       ·have e := hend hem
        have h0 : σ.2.2.length = 0 := by
         rw [List.isEmpty_iff] at hem; rw [hem]; rfl
        rw [e] at hro
        obtain ⟨rfl, rfl⟩ := hro
        repeat' first | refine pw_step rfl ?_ | refine wR ?_ | (refine wpG_split rfl rfl (fun hc => ?_) (fun hc => ?_) <;> try simp only [hcL] at hc) | (refine pw_cond _ rfl rfl (fun hc => ?_) (fun hc => ?_) <;> (try simp only [hcL] at hc) <;> try omega) | simp (disch := omega) only [go_sem, simprocAttr, h0] | apply And.intro | omega | decide +kernel
        refine eR [(2000, 27)] [(4, .ref 2000 7 0 _ _), (5, .bool true)] [(2000, .row 7 _)] (by refine ⟨?_, ?_⟩ <;> (repeat' first | exact fmn | refine fmc ⟨(by first | rfl | (simp (disch := omega) only [go_sem, simprocAttr, inL]; first | done | omega | (congr 1; done))), ?_⟩); done) ?_
        refine pw_ret ?_
        exact ⟨⟨_, rfl, rfl, rfl, trivial⟩, List.forall_mem_cons.2 ⟨rfl, List.forall_mem_nil _⟩⟩
 refine ⟨fun W hW => main _ _ (by rw [hW]; exact ⟨rfl, rfl⟩), fun hN => main _ _ (by rw [hN]; exact ⟨rfl, rfl⟩)⟩
end Go.Proofs.Ythbcmebhpabpnaa.Sx
namespace Go.Proofs.Ythbcmebhpabpnaa.Sx
open Go Go.PS Go.Proofs
set_option maxRecDepth 100000
attribute [local irreducible] wpRun wpG CallsTo CallsM

def backN (W : List Way) (v : Int) : Nat → Int
 | 0 => v
 | k + 1 => (wAt W (backN W v k)).2.1
def stepN (W : List Way) (v : Int) (k : Nat) : Stp := (wAt W (backN W v k)).2.2.1
def mostN (W : List Way) (f : List Int) (m0 v : Int) : Nat → Int
 | 0 => m0
 | k + 1 => if (stepN W v k).2.2.2 then min (mostN W f m0 v k) (at0 f (stepN W v k).2.2.1) else mostN W f m0 v k
def sentN (W : List Way) (f : List Int) (m v : Int) : Nat → List Int
 | 0 => f
 | k + 1 => (sentN W f m v k).set (stepN W v k).2.2.1.toNat (at0 (sentN W f m v k) (stepN W v k).2.2.1 + (if (stepN W v k).2.2.2 then -m else m))
theorem backN_succ (W : List Way) (v : Int) (k : Nat) : backN W v (k + 1) = (wAt W (backN W v k)).2.1 := rfl
theorem mostN_succ (W : List Way) (f : List Int) (m0 v : Int) (k : Nat) : mostN W f m0 v (k + 1) = if (stepN W v k).2.2.2 then min (mostN W f m0 v k) (at0 f (stepN W v k).2.2.1) else mostN W f m0 v k := rfl
theorem sentN_succ (W : List Way) (f : List Int) (m v : Int) (k : Nat) : sentN W f m v (k + 1) = (sentN W f m v k).set (stepN W v k).2.2.1.toNat (at0 (sentN W f m v k) (stepN W v k).2.2.1 + (if (stepN W v k).2.2.2 then -m else m)) := rfl
def sendM (W : List Way) (f nd : List Int) (t : Int) (K : Nat) : Int := min (mostN W f (at0 nd t) t K) (-(at0 nd (backN W t K)))
theorem sendM_eq (W : List Way) (f nd : List Int) (t : Int) (K : Nat) : sendM W f nd t K = min (mostN W f (at0 nd t) t K) (-(at0 nd (backN W t K))) := rfl
theorem sentN_len (W : List Way) (f : List Int) (m v : Int) : ∀ k, (sentN W f m v k).length = f.length
 | 0 => rfl
 | k + 1 => by simp [sentN, sentN_len W f m v k]
theorem sentN_in {W : List Way} {f : List Int} {m v F M : Int} (hf : within f F) (hM : 0 ≤ M) (hm : -M ≤ m ∧ m ≤ M) : ∀ k : Nat, within (sentN W f m v k) (F + M * k)
 | 0 => by simpa [sentN] using hf
 | k + 1 => by
  have ih := sentN_in (W := W) (v := v) hf hM hm k
  have h1 := ih (stepN W v k).2.2.1
  have e : F + M * ((k + 1 : Nat) : Int) = F + M * k + M := by rw [Int.natCast_add, Int.natCast_one, Int.mul_add, Int.mul_one, Int.add_assoc]
  rw [e, sentN]
  refine within_set (within_le ih (by omega)) ?_ ?_ <;> split <;> omega
theorem mostN_in {W : List Way} {f : List Int} {m0 v F : Int} (hf : within f F) (hm : -F ≤ m0 ∧ m0 ≤ F) : ∀ k : Nat, -F ≤ mostN W f m0 v k ∧ mostN W f m0 v k ≤ F
 | 0 => by simpa [mostN] using hm
 | k + 1 => by
  have ih := mostN_in (W := W) (v := v) hf hm k
  have h1 := hf (stepN W v k).2.2.1
  rw [mostN]; split <;> omega
def WaysIn (n m : Nat) (W : List Way) : Prop := W.length = n ∧ ∀ w ∈ W, 0 ≤ w.2.1 ∧ w.2.1 < (n : Int) ∧ 0 ≤ w.2.2.1.2.2.1 ∧ w.2.2.1.2.2.1 < (m : Int)
theorem back_in {n m : Nat} {W : List Way} {v : Int} (hW : WaysIn n m W) (h0 : 0 ≤ v) (hv : v < n) : ∀ k, 0 ≤ backN W v k ∧ backN W v k < n
 | 0 => ⟨h0, hv⟩
 | k + 1 => by
  obtain ⟨h1, h2⟩ := back_in hW h0 hv k
  have := hW.2 _ (List.mem_of_getElem? (wAt_get hW.1 h1 h2))
  exact ⟨this.1, this.2.1⟩
abbrev pM (n : Nat) (l : List Bd) (m : Nat) : Ob := .cells [.int n, .d (bdsD l), .ref 1001 1 0 m m]
set_option maxHeartbeats 8000000 in
theorem send_spec (n : Nat) (l : List Bd) (f : List Int) (W : List Way) (t : Int) (nd : List Int) (K : Nat) (hn : n ≤ 2048) (hW : WaysIn n f.length W) (hndl : nd.length = n)
  (ht : 0 ≤ t ∧ t < n) (hK : K ≤ n) (h1 : ∀ j, j < K → (wAt W (backN W t j)).2.2.2 = false) (h2 : (wAt W (backN W t K)).2.2.2 = true) (hf : within f 1125899906842624) (hnd : within nd 1125899906842624) :
  CallsM Try.prog 70 [.ptr 1000 0 0 0, .d (.sl (waysD W)), .int t, .ref 1002 1 0 n n] [(1000, pM n l f.length), (1001, .row 1 (intsL f)), (1002, .row 1 (intsL nd))]
   (.tup [.int (backN W t K), .int (sendM W f nd t K)]) [(1000, pM n l f.length), (1001, .row 1 (intsL (sentN W f (sendM W f nd t K) t K))), (1002, .row 1 (intsL nd))] := by
 have hbk := back_in hW ht.1 ht.2
 have hms := mostN_in (W := W) (v := t) (m0 := at0 nd t) hf (hnd t)
 have hst : ∀ k, ∃ b : Nat, (stepN W t k).2.2.1 = b ∧ b < f.length := by
  intro k
  have := hW.2 _ (List.mem_of_getElem? (wAt_get hW.1 (hbk k).1 (hbk k).2))
  exact ⟨(stepN W t k).2.2.1.toNat, by rw [stepN]; omega, by rw [stepN]; omega⟩
 refine callsM_of Try.func70 rfl (by decide +kernel) (Nat.le_of_ble_eq_true rfl) rfl (nodup_of rfl) rfl rfl rfl ?_
 intro B X w0
 obtain ⟨t', rfl⟩ : ∃ t' : Nat, t = t' := ⟨t.toNat, by omega⟩
 have gnt := at0_at (r := nd) (i := t') (by omega)
 have hWl := hW.1
 repeat' first | refine pw_step rfl ?_ | refine pw_ret ?_ | refine wR ?_ | (refine wpG_split rfl rfl (fun hc => ?_) (fun hc => ?_) <;> try simp only [hcL] at hc) | (refine pw_cond _ rfl rfl (fun hc => ?_) (fun hc => ?_) <;> (try simp only [hcL] at hc) <;> try omega) | simp (disch := omega) only [go_sem, simprocAttr, gnt, hndl] | apply And.intro | omega | decide +kernel
 refine pw_loopI (κ := Nat) (fun (k : Nat) => k ≤ K) (fun (k : Nat) => [(0, .ptr 1000 0 0 0), (1, .d (.sl (waysD W))), (2, .int t'), (3, .ref 1002 1 0 n n), (10, .int (backN W t' k)), (11, .int (mostN W f (at0 nd t') t' k)), (12, .int (backN W t' k))]) (fun (k : Nat) => [(1000, pM n l f.length), (1001, .row 1 (intsL f)), (1002, .row 1 (intsL nd))]) (fun (k : Nat) => K - k) 0 ?_ ?_ ?_
 ·exact Nat.zero_le _
 ·exact eL [] _ _ (by refine ⟨?_, ?_⟩ <;> (repeat' first | exact fmn | refine fmc ⟨(by first | rfl | (simp (disch := omega) only [go_sem, simprocAttr, inL, backN, mostN]; first | done | omega | (congr 1; done))), ?_⟩); done)
 ·intro k hk
  obtain ⟨b, hb1, hb2⟩ := hst k
  have gb := at0_at hb2
  have hbb := hf b
  have hmk := hms k
  have hmn := mostN_succ W f (at0 nd t') t' k
  have hbn := backN_succ W t' k
  obtain ⟨hv1, hv2⟩ := hbk k
  have hgb : (wAt W (backN W t' k)).2.2.2 = decide (k = K) := by
   rcases Decidable.em (k = K) with h | h
   ·rw [h, h2]; simp
   ·rw [h1 k (by omega), decide_eq_false h]
  rw [hb1] at hmn
  rw [stepN] at hb1 hmn
  obtain ⟨v, hv⟩ : ∃ v : Nat, backN W t' k = v := ⟨(backN W t' k).toNat, by omega⟩
  rw [hv] at hv1 hv2 hbn hgb hmn hb1
  have gv : W[v]? = some (wAt W v) := wAt_get (v := (v : Int)) hWl hv1 hv2
  rcases Nat.lt_or_ge k K with hlt | hge
  ·rw [decide_eq_false (show k ≠ K by omega)] at hgb
   generalize hw : wAt W v = w at gv hbn hgb hmn hb1
   obtain ⟨lg, fr, ⟨s1, s2, s3, s4⟩, bg⟩ := w
   dsimp only at hbn hgb hmn hb1
   subst hgb
   cases s4 with
   | false =>
    rw [if_neg (by decide)] at hmn
    repeat' first | refine pw_step rfl ?_ | refine pw_ret ?_ | refine wR ?_ | (refine wpG_split rfl rfl (fun hc => ?_) (fun hc => ?_) <;> try simp only [hcL] at hc) | (refine pw_cond _ rfl rfl (fun hc => ?_) (fun hc => ?_) <;> (try simp only [hcL] at hc) <;> try omega) | simp (disch := omega) only [go_sem, simprocAttr, gv, hv, hWl, hb1] | apply And.intro | omega | decide +kernel
    refine ⟨k + 1, ?_, eL [] _ _ (by refine ⟨?_, ?_⟩ <;> (repeat' first | exact fmn | refine fmc ⟨(by first | rfl | (simp (disch := omega) only [go_sem, simprocAttr, inL, hbn, hmn]; first | done | omega | (congr 1; done))), ?_⟩); done), ?_⟩
    ·omega
    ·omega
   | true =>
    rw [if_pos rfl] at hmn
    repeat' first | refine pw_step rfl ?_ | refine pw_ret ?_ | refine wR ?_ | (refine wpG_split rfl rfl (fun hc => ?_) (fun hc => ?_) <;> try simp only [hcL] at hc) | (refine pw_cond _ rfl rfl (fun hc => ?_) (fun hc => ?_) <;> (try simp only [hcL] at hc) <;> try omega) | simp (disch := omega) only [go_sem, simprocAttr, gv, hv, hWl, hb1, gb, ite_min] | apply And.intro | omega | decide +kernel
    refine ⟨k + 1, ?_, eL [] _ _ (by refine ⟨?_, ?_⟩ <;> (repeat' first | exact fmn | refine fmc ⟨(by first | rfl | (simp (disch := omega) only [go_sem, simprocAttr, inL, hbn, hmn]; first | done | omega | (congr 1; done))), ?_⟩); done), ?_⟩
    ·omega
    ·omega
  ·have : k = K := by omega
   subst this
   rw [decide_eq_true rfl] at hgb
   have gnv := at0_at (r := nd) (i := v) (by omega)
   have hnv := hnd v
   have hsm := sendM_eq W f nd t' k
   rw [hv] at hsm
   have hsent := sentN_in (W := W) (v := (t' : Int)) (m := sendM W f nd t' k) (M := 1125899906842624) hf (by omega) (by omega)
   have hfr : backN W t' k = v := hv
   repeat' first | refine pw_step rfl ?_ | refine wR ?_ | (refine wpG_split rfl rfl (fun hc => ?_) (fun hc => ?_) <;> try simp only [hcL] at hc) | (refine pw_cond _ rfl rfl (fun hc => ?_) (fun hc => ?_) <;> (try simp only [hcL] at hc) <;> try omega) | simp (disch := omega) only [go_sem, simprocAttr, gv, hv, hWl, hgb, gnv, hndl, ite_min] | apply And.intro | omega | decide +kernel
   rw [← hsm]
   generalize sendM W f nd t' k = m at hsm hsent ⊢
   refine pw_loopI (κ := Nat) (fun (j : Nat) => j ≤ k) (fun (j : Nat) => [(0, .ptr 1000 0 0 0), (1, .d (.sl (waysD W))), (10, .int v), (11, .int m), (14, .int (backN W t' j))]) (fun (j : Nat) => [(1000, pM n l f.length), (1001, .row 1 (intsL (sentN W f m t' j))), (1002, .row 1 (intsL nd))]) (fun (j : Nat) => k - j) 0 ?_ ?_ ?_
   ·exact Nat.zero_le _
   ·exact eL [] _ _ (by refine ⟨?_, ?_⟩ <;> (repeat' first | exact fmn | refine fmc ⟨(by first | rfl | (simp (disch := omega) only [go_sem, simprocAttr, inL, backN, sentN]; first | done | omega | (congr 1; done))), ?_⟩); done)
   ·intro j hj
    obtain ⟨b, hb1, hb2⟩ := hst j
    have hsl := sentN_len W f m t' j
    have gb := at0_at (r := sentN W f m t' j) (i := b) (by omega)
    have hbb := hsent j b
    have hmn := sentN_succ W f m t' j
    have hbn := backN_succ W t' j
    obtain ⟨hv1, hv2⟩ := hbk j
    have hgj : (wAt W (backN W t' j)).2.2.2 = decide (j = k) := by
     rcases Decidable.em (j = k) with h | h
     ·rw [h, h2]; simp
     ·rw [h1 j (by omega), decide_eq_false h]
    rw [hb1, Int.toNat_natCast] at hmn
    rw [stepN] at hb1 hmn
    obtain ⟨u, hu⟩ : ∃ u : Nat, backN W t' j = u := ⟨(backN W t' j).toNat, by omega⟩
    rw [hu] at hv1 hv2 hbn hgj hmn hb1
    have gu : W[u]? = some (wAt W u) := wAt_get (v := (u : Int)) hWl hv1 hv2
    rcases Nat.lt_or_ge j k with hlt | hge2
    ·rw [decide_eq_false (show j ≠ k by omega)] at hgj
     generalize hw : wAt W u = w at gu hbn hgj hmn hb1
     obtain ⟨lg, fr, ⟨s1, s2, s3, s4⟩, bg⟩ := w
     dsimp only at hbn hgj hmn hb1
     subst hgj
     cases s4 with
     | false =>
      rw [if_neg (by decide)] at hmn
      repeat' first | refine pw_step rfl ?_ | refine pw_ret ?_ | refine wR ?_ | (refine wpG_split rfl rfl (fun hc => ?_) (fun hc => ?_) <;> try simp only [hcL] at hc) | (refine pw_cond _ rfl rfl (fun hc => ?_) (fun hc => ?_) <;> (try simp only [hcL] at hc) <;> try omega) | simp (disch := omega) only [go_sem, simprocAttr, gu, hu, hWl, hb1, gb, hsl] | apply And.intro | omega | decide +kernel
      refine ⟨j + 1, ?_, eL [] _ _ (by refine ⟨?_, ?_⟩ <;> (repeat' first | exact fmn | refine fmc ⟨(by first | rfl | (simp (disch := omega) only [go_sem, simprocAttr, inL, hbn, hmn, List.map_set]; first | done | omega | (congr 1; done))), ?_⟩); done), ?_⟩
      ·omega
      ·omega
     | true =>
      rw [if_pos rfl] at hmn
      repeat' first | refine pw_step rfl ?_ | refine pw_ret ?_ | refine wR ?_ | (refine wpG_split rfl rfl (fun hc => ?_) (fun hc => ?_) <;> try simp only [hcL] at hc) | (refine pw_cond _ rfl rfl (fun hc => ?_) (fun hc => ?_) <;> (try simp only [hcL] at hc) <;> try omega) | simp (disch := omega) only [go_sem, simprocAttr, gu, hu, hWl, hb1, gb, hsl] | apply And.intro | omega | decide +kernel
      refine ⟨j + 1, ?_, eL [] _ _ (by refine ⟨?_, ?_⟩ <;> (repeat' first | exact fmn | refine fmc ⟨(by first | rfl | (simp (disch := omega) only [go_sem, simprocAttr, inL, hbn, hmn, List.map_set, Int.sub_eq_add_neg]; first | done | omega | (congr 1; done))), ?_⟩); done), ?_⟩
      ·omega
      ·omega
    ·have : j = k := by omega
     subst this
     rw [decide_eq_true rfl] at hgj
     repeat' first | refine pw_step rfl ?_ | refine wR ?_ | (refine wpG_split rfl rfl (fun hc => ?_) (fun hc => ?_) <;> try simp only [hcL] at hc) | (refine pw_cond _ rfl rfl (fun hc => ?_) (fun hc => ?_) <;> (try simp only [hcL] at hc) <;> try omega) | simp (disch := omega) only [go_sem, simprocAttr, gu, hu, hWl, hgj] | apply And.intro | omega | decide +kernel
     refine pw_ret ?_
     exact ⟨⟨_, rfl, rfl, rfl, trivial⟩, List.forall_mem_cons.2 ⟨rfl, List.forall_mem_cons.2 ⟨rfl, List.forall_mem_cons.2 ⟨rfl, List.forall_mem_nil _⟩⟩⟩⟩
end Go.Proofs.Ythbcmebhpabpnaa.Sx
namespace Go.Proofs.Ythbcmebhpabpnaa.Sx
open Go Go.PS Go.Proofs
set_option maxRecDepth 100000
attribute [local irreducible] wpRun wpG CallsTo CallsM

def negAt (nd : List Int) (v : Nat) : List Int := if at0 nd v < 0 then [(v : Int)] else []
def negs (nd : List Int) (k : Nat) : List Int := catN (negAt nd) k
def pickN (W : List Way) (nd : List Int) : Nat → Int
 | 0 => -1
 | k + 1 => if 0 < at0 nd k ∧ -576460752303423488 < (wAt W k).1 ∧ (pickN W nd k < 0 ∨ (wAt W (pickN W nd k)).1 < (wAt W k).1) then k else pickN W nd k
def stopN (W : List Way) (t : Int) (m : Nat) : Option Nat := firstN (fun k => (wAt W (backN W t k)).2.2.2) m
def waysOk (n m : Nat) (W : List Way) : Bool := decide (W.length = n) && W.all fun w => decide (0 ≤ w.2.1 ∧ w.2.1 < (n : Int) ∧ 0 ≤ w.2.2.1.2.2.1 ∧ w.2.2.1.2.2.1 < (m : Int))
def inB (f : List Int) : Bool := f.all fun x => decide (-1125899906842624 ≤ x ∧ x ≤ 1125899906842624)
def certStep (n : Nat) (l : List Bd) (f nd : List Int) : Option (List Int × List Int) :=
 match longestF n (stepsL l f) (negs nd n) with
 | none => none
 | some W => match stopN W (pickN W nd n) (n + 1) with
  | none => none
  | some K => if (decide (0 ≤ pickN W nd n) && waysOk n l.length W && inB f && inB nd) = true then
    some (sentN W f (sendM W f nd (pickN W nd n) K) (pickN W nd n) K,
     (nd.set (backN W (pickN W nd n) K).toNat (at0 nd (backN W (pickN W nd n) K) + sendM W f nd (pickN W nd n) K)).set (pickN W nd n).toNat
      (at0 (nd.set (backN W (pickN W nd n) K).toNat (at0 nd (backN W (pickN W nd n) K) + sendM W f nd (pickN W nd n) K)) (pickN W nd n) - sendM W f nd (pickN W nd n) K)) else none
def certF (n : Nat) (l : List Bd) : Nat → List Int → List Int → Option (List Int)
 | 0, _, _ => none
 | r + 1, f, nd => if (negs nd n).isEmpty then some f else match certStep n l f nd with
  | none => none
  | some s => certF n l r s.1 s.2
theorem inB_within {f : List Int} (h : inB f = true) : within f 1125899906842624 := by
 intro v
 rw [at0]
 cases hx : f[v.toNat]? with
 | none => simp
 | some x =>
  simp only [inB, List.all_eq_true, decide_eq_true_eq] at h
  exact h x (List.mem_of_getElem? hx)
theorem waysOk_in {n m : Nat} {W : List Way} (h : waysOk n m W = true) : WaysIn n m W := by
 simp only [waysOk, Bool.and_eq_true, decide_eq_true_eq, List.all_eq_true] at h
 exact h
theorem firstN_some {p : Nat → Bool} : ∀ {m k : Nat}, firstN p m = some k → k < m ∧ p k = true ∧ ∀ j, j < k → p j = false := by
 intro m
 induction m with
 | zero => intro k h; simp [firstN] at h
 | succ m ih =>
  intro k h
  rw [firstN] at h
  cases hm : firstN p m with
  | some j =>
   rw [hm] at h
   simp only [Option.some.injEq] at h
   subst h
   obtain ⟨h1, h2, h3⟩ := ih hm
   exact ⟨by omega, h2, h3⟩
  | none =>
   rw [hm] at h
   have hno : ∀ j, j < m → p j = false := by
    intro j hj
    cases hp : p j with
    | false => rfl
    | true =>
     exfalso
     have key : ∀ m, j < m → firstN p m ≠ none := by
      intro m
      induction m with
      | zero => intro h; omega
      | succ m ih2 =>
       intro hjm hn
       rw [firstN] at hn
       cases hq : firstN p m with
       | some i => rw [hq] at hn; simp at hn
       | none =>
        rw [hq] at hn
        rcases Nat.lt_or_ge j m with h | h
        ·exact ih2 h hq
        ·have : j = m := by omega
         subst this
         simp [hp] at hn
     exact key m hj hm
   by_cases hp : p m = true
   ·simp [hp] at h; subst h; exact ⟨by omega, hp, hno⟩
   ·simp [hp] at h
theorem negs_in (nd : List Int) : ∀ k, (∀ x ∈ negs nd k, 0 ≤ x ∧ x < (k : Int)) ∧ (negs nd k).length ≤ k
 | 0 => by simp [negs, catN]
 | k + 1 => by
  obtain ⟨h1, h2⟩ := negs_in nd k
  simp only [negs, catN] at h1 h2 ⊢
  refine ⟨fun x hx => ?_, ?_⟩
  ·rcases List.mem_append.1 hx with hx | hx
   ·have := h1 x hx; omega
   ·rw [negAt] at hx; split at hx
    ·rw [List.mem_singleton.1 hx]; omega
    ·simp at hx
  ·rw [List.length_append, negAt]; split <;> simp <;> omega
theorem pick_in (W : List Way) (nd : List Int) : ∀ k, pickN W nd k < (k : Int) ∧ -1 ≤ pickN W nd k
 | 0 => by simp [pickN]
 | k + 1 => by
  have := pick_in W nd k
  rw [pickN]; split <;> omega
set_option maxHeartbeats 16000000 in
theorem certify_spec (n : Nat) (l : List Bd) (f0 f1 : List Int) (R : Nat) (hg : nOk (n, l) = true) (hfl : f0.length = l.length) (hc : certF n l R f0 (needRow l n l.length) = some f1) :
  CallsM Try.prog 49 [.ptr 1000 0 0 0] [(1000, pM n l l.length), (1001, .row 1 (intsL f0))] (.tup []) [(1000, pM n l l.length), (1001, .row 1 (intsL f1))] := by
 obtain ⟨h1, h2, h3, h4⟩ := nOk_in hg
 dsimp only at h1 h2 h3 h4
 have hneed := needs_spec n l f0 hg
 have hnl := needRow_len l n l.length
 generalize needRow l n l.length = nd0 at hc hneed hnl
 refine callsM_of Try.func49 rfl (by decide +kernel) (Nat.le_of_ble_eq_true rfl) rfl (nodup_of rfl) rfl rfl rfl ?_
 intro B X w0
 have htk0 : (f0.map D.int).take l.length = f0.map D.int := by rw [← hfl]; exact take_map_len _ _
 repeat' first | refine pw_step rfl ?_ | refine pw_ret ?_ | refine wR ?_ | (refine run_callMF [(2000, 14)] (hneed) rfl rfl rfl rfl rfl rfl (nodup_of rfl) ?_ ?_ ?_ ?_ rfl ?_; (· (repeat' first | exact fmn | refine fmc ⟨⟨nofun, fun h => by first | rfl | (simp at h; done)⟩, ?_⟩)); (· (refine ⟨rfl, ?_, ?_⟩ <;> (repeat' first | exact fmn | refine fmc ⟨?_, ?_⟩ | exact trivial | exact flat_ints _ | exact flat_map _ (fun _ => rfl) _ | (intro d hd c hc; simp [D.flat, D.cells] at *)))); (· (repeat' first | exact trivial | refine ⟨.inl rfl, ?_⟩ | refine ⟨.inr ⟨_, rfl, rfl, .inr trivial⟩, ?_⟩ | refine ⟨.inr ⟨_, rfl, (by simp (disch := omega) only [go_sem, simprocAttr, hfl, htk0, List.drop_zero]; done), .inr trivial⟩, ?_⟩)); (· (repeat' first | exact fmn | refine fmc ⟨rfl, ?_⟩))) | (refine wpG_split rfl rfl (fun hc => ?_) (fun hc => ?_) <;> try simp only [hcL] at hc) | (refine pw_cond _ rfl rfl (fun hc => ?_) (fun hc => ?_) <;> (try simp only [hcL] at hc) <;> try omega) | simp (disch := omega) only [go_sem, simprocAttr, hfl, htk0, List.drop_zero] | apply And.intro | omega | decide +kernel
 refine pw_loopI (κ := Nat × List Int × List Int) (fun (q : Nat × List Int × List Int) => match q with | ⟨r, f, nd⟩ => certF n l r f nd = some f1 ∧ f.length = l.length ∧ nd.length = n) (fun (q : Nat × List Int × List Int) => match q with | ⟨r, f, nd⟩ => [(0, .ptr 1000 0 0 0), (2, .ref 14 1 0 n n)]) (fun (q : Nat × List Int × List Int) => match q with | ⟨r, f, nd⟩ => [(1000, pM n l l.length), (1001, .row 1 (intsL f)), (14, .row 1 (intsL nd))]) (fun (q : Nat × List Int × List Int) => match q with | ⟨r, f, nd⟩ => r) (R, f0, nd0) ?_ ?_ ?_
 ·exact ⟨hc, hfl, hnl⟩
 ·exact eL [] _ _ (by refine ⟨?_, ?_⟩ <;> (repeat' first | exact fmn | refine fmc ⟨(by first | rfl | (simp (disch := omega) only [go_sem, simprocAttr, inL]; first | done | omega | (congr 1; done))), ?_⟩); done)
 ·rintro ⟨r, f, nd⟩ ⟨hcf, hfl, hnl⟩
  try dsimp only
  cases r with
  | zero => rw [certF] at hcf; cases hcf
  | succ r =>
   rw [certF] at hcf
   repeat' first | refine pw_step rfl ?_ | refine pw_ret ?_ | refine wR ?_ | (refine wpG_split rfl rfl (fun hc => ?_) (fun hc => ?_) <;> try simp only [hcL] at hc) | (refine pw_cond _ rfl rfl (fun hc => ?_) (fun hc => ?_) <;> (try simp only [hcL] at hc) <;> try omega) | simp (disch := omega) only [go_sem, simprocAttr] | apply And.intro | omega | decide +kernel
   refine pw_ent _ (ent_nil 3 900 1 rfl rfl) ?_
   refine pw_loopI (κ := Nat) (fun (i : Nat) => i ≤ n) (fun (i : Nat) => [(0, .ptr 1000 0 0 0), (2, .ref 14 1 0 n n), (3, .ref 900 1 0 (negs nd i).length (negs nd i).length), (15, .ref 14 1 0 n n), (16, .int n), (17, .int i)]) (fun (i : Nat) => [(1000, pM n l l.length), (1001, .row 1 (intsL f)), (14, .row 1 (intsL nd)), (900, .row 1 (intsL (negs nd i)))]) (fun (i : Nat) => n - i) 0 ?_ ?_ ?_
   ·exact Nat.zero_le _
   ·exact eL [] _ _ (by refine ⟨?_, ?_⟩ <;> (repeat' first | exact fmn | refine fmc ⟨(by first | rfl | (simp (disch := omega) only [go_sem, simprocAttr, inL]; first | done | omega | (congr 1; done))), ?_⟩); done)
   ·intro i hi
    rcases Nat.lt_or_ge i n with hin | hin
    ·have gi := at0_at (r := nd) (i := i) (by omega)
     have hns : negs nd (i + 1) = negs nd i ++ negAt nd i := rfl
     have hnl2 := (negs_in nd i).2
     rcases Decidable.em (at0 nd i < 0) with hneg | hneg
     ·rw [negAt, if_pos hneg] at hns
      repeat' first | refine pw_step rfl ?_ | refine pw_ret ?_ | refine wR ?_ | (refine wpG_split rfl rfl (fun hc => ?_) (fun hc => ?_) <;> try simp only [hcL] at hc) | (refine pw_cond _ rfl rfl (fun hc => ?_) (fun hc => ?_) <;> (try simp only [hcL] at hc) <;> try omega) | simp (disch := omega) only [go_sem, simprocAttr, gi, hnl, roomy, take_map_len] | apply And.intro | omega | decide +kernel
      refine ⟨i + 1, ?_, eL [(900, 27)] _ _ (by refine ⟨?_, ?_⟩ <;> (repeat' first | exact fmn | refine fmc ⟨(by first | rfl | (simp (disch := omega) only [go_sem, simprocAttr, inL, hns, List.map_append, List.length_append]; first | done | omega | (congr 1; done))), ?_⟩); done), ?_⟩
      ·omega
      ·omega
     ·rw [negAt, if_neg hneg, List.append_nil] at hns
      repeat' first | refine pw_step rfl ?_ | refine pw_ret ?_ | refine wR ?_ | (refine wpG_split rfl rfl (fun hc => ?_) (fun hc => ?_) <;> try simp only [hcL] at hc) | (refine pw_cond _ rfl rfl (fun hc => ?_) (fun hc => ?_) <;> (try simp only [hcL] at hc) <;> try omega) | simp (disch := omega) only [go_sem, simprocAttr, gi, hnl, roomy, take_map_len] | apply And.intro | omega | decide +kernel
      refine ⟨i + 1, ?_, eL [] _ _ (by refine ⟨?_, ?_⟩ <;> (repeat' first | exact fmn | refine fmc ⟨(by first | rfl | (simp (disch := omega) only [go_sem, simprocAttr, inL, hns]; first | done | omega | (congr 1; done))), ?_⟩); done), ?_⟩
      ·omega
      ·omega
    ·have : i = n := by omega
     subst this
     obtain ⟨hs1, hs2⟩ := negs_in nd i
     refine pw_ent _ (ent_freeze 900 1 _ rfl (noGone_of _ rfl) (by decide)) ?_
     rcases hem : (negs nd i).isEmpty with _ | _
     ·rw [hem] at hcf
      rw [if_neg (by decide), certStep] at hcf
      have hpos : 0 < (negs nd i).length := by
       rcases Nat.eq_zero_or_pos (negs nd i).length with h | h
       ·rw [List.length_eq_zero_iff.1 h] at hem; cases hem
       ·exact h
      have hlong := (longest_spec i l f (negs nd i) (by omega) (by omega) hfl (fun k b hb => by have := h4 k b hb; omega) hs1 hs2).1
      cases hW : longestF i (stepsL l f) (negs nd i) with
      | none => rw [hW] at hcf; cases hcf
      | some W =>
       rw [hW] at hcf
       have hlong := hlong W hW
       dsimp only at hcf
       cases hK : stopN W (pickN W nd i) (i + 1) with
       | none => rw [hK] at hcf; cases hcf
       | some K =>
        rw [hK] at hcf
        dsimp only at hcf
        by_cases hcond : (decide (0 ≤ pickN W nd i) && waysOk i l.length W && inB f && inB nd) = true
        ·rw [if_pos hcond] at hcf
         dsimp only at hcf
         simp only [Bool.and_eq_true, decide_eq_true_eq] at hcond
         obtain ⟨⟨⟨c1, c2⟩, c3⟩, c4⟩ := hcond
         obtain ⟨k1, k2, k3⟩ := firstN_some hK
         have hWI := waysOk_in c2
         have hpk := pick_in W nd i
         have hsend := send_spec i l f W (pickN W nd i) nd K (by omega) (hfl ▸ hWI) hnl ⟨c1, hpk.1⟩ (by omega) k3 k2 (inB_within c3) (inB_within c4)
         rw [hfl] at hsend
         have hnw := inB_within c4
         have hmm := mostN_in (W := W) (v := pickN W nd i) (m0 := at0 nd (pickN W nd i)) (inB_within c3) (hnw _) K
         have hsl := sentN_len W f (sendM W f nd (pickN W nd i) K) (pickN W nd i) K
         have hbk := back_in hWI c1 hpk.1 K
         have hWl := hWI.1
         have htkf : (f.map D.int).take l.length = f.map D.int := by rw [← hfl]; exact take_map_len _ _
         repeat' first | refine pw_step rfl ?_ | refine pw_ret ?_ | refine wR ?_ | (refine run_callMF [(2000, 35)] (hlong) rfl rfl rfl rfl rfl rfl (nodup_of rfl) ?_ ?_ ?_ ?_ rfl ?_; (· (repeat' first | exact fmn | refine fmc ⟨⟨nofun, fun h => by first | rfl | (simp at h; done)⟩, ?_⟩)); (· (refine ⟨rfl, ?_, ?_⟩ <;> (repeat' first | exact fmn | refine fmc ⟨?_, ?_⟩ | exact trivial | exact flat_ints _ | exact flat_map _ (fun _ => rfl) _ | (intro d hd c hc; simp [D.flat, D.cells] at *)))); (· (repeat' first | exact trivial | refine ⟨.inl rfl, ?_⟩ | refine ⟨.inr ⟨_, rfl, rfl, .inr trivial⟩, ?_⟩ | refine ⟨.inr ⟨_, rfl, (by simp (disch := omega) only [go_sem, simprocAttr, hfl, hnl, htkf, take_map_len, List.drop_zero]; done), .inr trivial⟩, ?_⟩)); (· (repeat' first | exact fmn | refine fmc ⟨rfl, ?_⟩))) | (refine wpG_split rfl rfl (fun hc => ?_) (fun hc => ?_) <;> try simp only [hcL] at hc) | (refine pw_cond _ rfl rfl (fun hc => ?_) (fun hc => ?_) <;> (try simp only [hcL] at hc) <;> try omega) | simp (disch := omega) only [go_sem, simprocAttr, hfl, hnl, htkf, take_map_len, List.drop_zero] | apply And.intro | omega | decide +kernel
         refine pw_loopI (κ := Nat) (fun (u : Nat) => u ≤ i) (fun (u : Nat) => [(0, .ptr 1000 0 0 0), (2, .ref 14 1 0 i i), (6, .ref 35 7 0 i i), (8, .int (pickN W nd u)), (38, .ref 14 1 0 i i), (39, .int i), (40, .int u)]) (fun (u : Nat) => [(1000, pM i l l.length), (1001, .row 1 (intsL f)), (14, .row 1 (intsL nd)), (35, .row 7 (waysD W))]) (fun (u : Nat) => i - u) 0 ?_ ?_ ?_
         ·exact Nat.zero_le _
         ·exact eL [] _ _ (by refine ⟨?_, ?_⟩ <;> (repeat' first | exact fmn | refine fmc ⟨(by first | rfl | (simp (disch := omega) only [go_sem, simprocAttr, inL]; first | done | omega | (congr 1; done))), ?_⟩); done)
         ·intro u hu
          rcases Nat.lt_or_ge u i with hui | hui
          ·have gn := at0_at (r := nd) (i := u) (by omega)
           have gw : W[u]? = some (wAt W u) := wAt_get (v := (u : Int)) hWl (by omega) (by omega)
           obtain ⟨q1, q2⟩ := pick_in W nd u
           have hps : pickN W nd (u + 1) = if 0 < at0 nd u ∧ -576460752303423488 < (wAt W u).1 ∧ (pickN W nd u < 0 ∨ (wAt W (pickN W nd u)).1 < (wAt W u).1) then (u : Int) else pickN W nd u := rfl
           generalize pickN W nd u = p at q1 q2 hps ⊢
           rcases Int.lt_or_le p 0 with hp | hp
           ·rcases Decidable.em (0 < at0 nd u ∧ -576460752303423488 < (wAt W u).1) with hq | hq
            ·rw [if_pos ⟨hq.1, hq.2, .inl hp⟩] at hps
             repeat' first | refine pw_step rfl ?_ | refine pw_ret ?_ | refine wR ?_ | (refine wpG_split rfl rfl (fun hc => ?_) (fun hc => ?_) <;> try simp only [hcL] at hc) | (refine pw_cond _ rfl rfl (fun hc => ?_) (fun hc => ?_) <;> (try simp only [hcL] at hc) <;> try omega) | simp (disch := omega) only [go_sem, simprocAttr, gn, gw, hWl, hnl] | apply And.intro | omega | decide +kernel
             all_goals
              refine ⟨u + 1, ?_, eL [] _ _ (by refine ⟨?_, ?_⟩ <;> (repeat' first | exact fmn | refine fmc ⟨(by first | rfl | (simp (disch := omega) only [go_sem, simprocAttr, inL, hps]; first | done | omega | (congr 1; done))), ?_⟩); done), ?_⟩
              ·omega
              ·omega
            ·rw [if_neg (by omega)] at hps
             repeat' first | refine pw_step rfl ?_ | refine pw_ret ?_ | refine wR ?_ | (refine wpG_split rfl rfl (fun hc => ?_) (fun hc => ?_) <;> try simp only [hcL] at hc) | (refine pw_cond _ rfl rfl (fun hc => ?_) (fun hc => ?_) <;> (try simp only [hcL] at hc) <;> try omega) | simp (disch := omega) only [go_sem, simprocAttr, gn, gw, hWl, hnl] | apply And.intro | omega | decide +kernel
             all_goals
              refine ⟨u + 1, ?_, eL [] _ _ (by refine ⟨?_, ?_⟩ <;> (repeat' first | exact fmn | refine fmc ⟨(by first | rfl | (simp (disch := omega) only [go_sem, simprocAttr, inL, hps]; first | done | omega | (congr 1; done))), ?_⟩); done), ?_⟩
              ·omega
              ·omega
           ·obtain ⟨p', rfl⟩ : ∃ p' : Nat, p = p' := ⟨p.toNat, by omega⟩
            have gp : W[p']? = some (wAt W p') := wAt_get (v := (p' : Int)) hWl (by omega) (by omega)
            rcases Decidable.em (0 < at0 nd u ∧ -576460752303423488 < (wAt W u).1 ∧ (wAt W p').1 < (wAt W u).1) with hq | hq
            ·rw [if_pos ⟨hq.1, hq.2.1, .inr hq.2.2⟩] at hps
             repeat' first | refine pw_step rfl ?_ | refine pw_ret ?_ | refine wR ?_ | (refine wpG_split rfl rfl (fun hc => ?_) (fun hc => ?_) <;> try simp only [hcL] at hc) | (refine pw_cond _ rfl rfl (fun hc => ?_) (fun hc => ?_) <;> (try simp only [hcL] at hc) <;> try omega) | simp (disch := omega) only [go_sem, simprocAttr, gn, gw, gp, hWl, hnl] | apply And.intro | omega | decide +kernel
             all_goals
              refine ⟨u + 1, ?_, eL [] _ _ (by refine ⟨?_, ?_⟩ <;> (repeat' first | exact fmn | refine fmc ⟨(by first | rfl | (simp (disch := omega) only [go_sem, simprocAttr, inL, hps]; first | done | omega | (congr 1; done))), ?_⟩); done), ?_⟩
              ·omega
              ·omega
            ·rw [if_neg (by omega)] at hps
             repeat' first | refine pw_step rfl ?_ | refine pw_ret ?_ | refine wR ?_ | (refine wpG_split rfl rfl (fun hc => ?_) (fun hc => ?_) <;> try simp only [hcL] at hc) | (refine pw_cond _ rfl rfl (fun hc => ?_) (fun hc => ?_) <;> (try simp only [hcL] at hc) <;> try omega) | simp (disch := omega) only [go_sem, simprocAttr, gn, gw, gp, hWl, hnl] | apply And.intro | omega | decide +kernel
             all_goals
              refine ⟨u + 1, ?_, eL [] _ _ (by refine ⟨?_, ?_⟩ <;> (repeat' first | exact fmn | refine fmc ⟨(by first | rfl | (simp (disch := omega) only [go_sem, simprocAttr, inL, hps]; first | done | omega | (congr 1; done))), ?_⟩); done), ?_⟩
              ·omega
              ·omega
          ·have : u = i := by omega
           subst this
           refine pw_ent _ (ent_freeze 35 7 _ rfl (noGone_of _ rfl) (by decide)) ?_
           have htkw : (W.map wayD).take u = W.map wayD := by rw [← hWl]; exact take_map_len _ _
           have hsm := sendM_eq W f nd (pickN W nd u) K
           obtain ⟨p, hp⟩ : ∃ p : Nat, pickN W nd u = p := ⟨(pickN W nd u).toNat, by omega⟩
           obtain ⟨s, hs⟩ : ∃ s : Nat, backN W (pickN W nd u) K = s := ⟨(backN W (pickN W nd u) K).toNat, by omega⟩
           rw [hs] at hsend hcf hbk hsm
           rw [hp] at hsend hcf hpk hsm hmm
           rw [Int.toNat_natCast, Int.toNat_natCast] at hcf
           have gs := at0_at (r := nd) (i := s) (by omega)
           have gp := at0_at (r := nd) (i := p) (by omega)
           have ns := hnw s
           have np := hnw p
           generalize sendM W f nd p K = m at hsend hcf hsm
           have gq : ((List.map D.int nd).set s (D.sc (.int .i64 (at0 nd s + m))))[p]? = some (D.int (at0 (nd.set s (at0 nd s + m)) p)) := by
            rw [← List.map_set, List.getElem?_map, at0_at (by rw [List.length_set]; omega)]; rfl
           have hq2 : -2251799813685248 ≤ at0 (nd.set s (at0 nd s + m)) p ∧ at0 (nd.set s (at0 nd s + m)) p ≤ 2251799813685248 := by
            rw [at0_set _ _ _ _ (by omega)]; split <;> omega
           repeat' first | refine pw_step rfl ?_ | refine pw_ret ?_ | refine wR ?_ | refine rcM [(1000, 1000), (1001, 1001), (1002, 14)] (hsend) rfl ?_ | (refine wpG_split rfl rfl (fun hc => ?_) (fun hc => ?_) <;> try simp only [hcL] at hc) | (refine pw_cond _ rfl rfl (fun hc => ?_) (fun hc => ?_) <;> (try simp only [hcL] at hc) <;> try omega) | simp (disch := omega) only [go_sem, simprocAttr, hp, hfl, hnl, hWl, htkw, List.drop_zero, gs, gq, List.length_set] | apply And.intro | omega | decide +kernel
           refine ⟨(r, sentN W f m p K, (nd.set s (at0 nd s + m)).set p (at0 (nd.set s (at0 nd s + m)) p - m)), ?_, eL [] _ _ (by refine ⟨?_, ?_⟩ <;> (repeat' first | exact fmn | refine fmc ⟨(by first | rfl | (simp (disch := omega) only [go_sem, simprocAttr, inL, List.map_set]; first | done | omega | (congr 1; done))), ?_⟩); done), ?_⟩
           ·exact ⟨hcf, by rw [sentN_len, hfl], by rw [List.length_set, List.length_set, hnl]⟩
           ·show r < r + 1
            omega
        ·rw [if_neg hcond] at hcf; cases hcf
     ·rw [hem, if_pos rfl] at hcf
      cases hcf
      have h0 : (negs nd i).length = 0 := by
       rw [List.isEmpty_iff] at hem; rw [hem]; rfl
      repeat' first | refine pw_step rfl ?_ | refine wR ?_ | (refine wpG_split rfl rfl (fun hc => ?_) (fun hc => ?_) <;> try simp only [hcL] at hc) | (refine pw_cond _ rfl rfl (fun hc => ?_) (fun hc => ?_) <;> (try simp only [hcL] at hc) <;> try omega) | simp (disch := omega) only [go_sem, simprocAttr, h0] | apply And.intro | omega | decide +kernel
      refine pw_ret ?_
      exact ⟨⟨_, rfl, trivial⟩, List.forall_mem_cons.2 ⟨rfl, List.forall_mem_cons.2 ⟨rfl, List.forall_mem_nil _⟩⟩⟩
end Go.Proofs.Ythbcmebhpabpnaa.Sx
namespace Go.Proofs.Ythbcmebhpabpnaa.Sx
open Go Go.PS Go.Proofs
set_option maxRecDepth 100000
attribute [local irreducible] wpRun wpG CallsTo CallsM

def zeros (l : List Bd) : List Int := List.replicate l.length 0
theorem allI_in (n : Nat) : (∀ x ∈ allI n, 0 ≤ x ∧ x < (n : Int)) ∧ (allI n).length = n := by
 refine ⟨fun x hx => ?_, by simp [allI]⟩
 obtain ⟨u, hu, rfl⟩ := List.mem_map.1 hx
 have := List.mem_range.1 hu
 omega
theorem pD_zeros (n : Nat) (l : List Bd) : pD n l (zeros l) = .pt [.int n, bdsD l, .sl (List.replicate l.length (D.sc (.int .i64 0)))] := by simp [pD, zeros]
def longs (W : List Way) : List Int := W.map (·.1)
set_option maxHeartbeats 4000000 in
theorem Solve_ok (n : Nat) (l : List Bd) (f : List Int) (R : Nat) (W0 W : List Way) (hg : nOk (n, l) = true) (h0 : longestF n (stepsL l (zeros l)) (allI n) = some W0)
  (hc : certF n l R (zeros l) (needRow l n l.length) = some f) (hfl : f.length = l.length) (hW : longestF n (stepsL l f) (allI n) = some W) (hWl : W.length = n) :
  CallsM Try.prog 34 [.d (nD (n, l))] [(2000, .dead), (2001, .dead)] (.tup [.ref 2000 1 0 n n, .ref 2001 1 0 l.length l.length, .int 0]) [(2000, .row 1 (intsL (longs W))), (2001, .row 1 (intsL f))] := by
 have hv : CallsTo Try.prog 46 [nD (n, l)] (.bool true) := hg ▸ Valid_spec (n, l)
 obtain ⟨h1, h2, h3, h4⟩ := nOk_in hg
 dsimp only at h1 h2 h3 h4
 obtain ⟨a1, a2⟩ := allI_in n
 have hall := all_spec n l (zeros l) (by omega)
 have hall2 := all_spec n l f (by omega)
 have hlong := (longest_spec n l (zeros l) (allI n) (by omega) (by omega) (by simp [zeros]) (fun k b hb => by have := h4 k b hb; omega) a1 (by omega)).1 W0 h0
 have hlong2 := (longest_spec n l f (allI n) (by omega) (by omega) hfl (fun k b hb => by have := h4 k b hb; omega) a1 (by omega)).1 W hW
 have hcert := certify_spec n l (zeros l) f R hg (by simp [zeros]) hc
 have htk : (List.replicate l.length (D.sc (.int .i64 0))).take l.length = List.replicate l.length (D.sc (.int .i64 0)) := List.take_of_length_le (by simp)
 have htk2 : ((allI n).map D.int).take n = (allI n).map D.int := List.take_of_length_le (by simp [a2])
 have htk3 : (f.map D.int).take l.length = f.map D.int := List.take_of_length_le (by simp [hfl])
 have hz : intsL (zeros l) = List.replicate l.length (D.sc (.int .i64 0)) := by simp [zeros]
 rw [hz] at hcert
 rw [pD_zeros] at hall hlong
 refine callsM_of Try.func34 rfl (by decide +kernel) (Nat.le_of_ble_eq_true rfl) rfl (nodup_of rfl) rfl rfl rfl ?_
 intro B X w0
 repeat' first | refine pw_step rfl ?_ | refine wR ?_ | (refine rc (hv) rfl ?_ ?_; (· first | rfl | simp (disch := omega) only [go_sem, simprocAttr, htk, htk2, htk3, a2, hfl, List.drop_zero, List.map_replicate, List.length_replicate])) | (refine run_callMF [(2000, 25)] (hall) rfl rfl rfl rfl rfl rfl (nodup_of rfl) ?_ ?_ ?_ ?_ rfl ?_; (· (repeat' first | exact fmn | refine fmc ⟨⟨nofun, fun h => by first | rfl | (simp at h; done)⟩, ?_⟩)); (· (refine ⟨rfl, ?_, ?_⟩ <;> (repeat' first | exact fmn | refine fmc ⟨?_, ?_⟩ | exact trivial | exact flat_ints _ | exact flat_map _ (fun _ => rfl) _ | (intro d hd c hc; simp [D.flat, D.cells] at *)))); (· (repeat' first | exact trivial | refine ⟨.inl rfl, ?_⟩ | refine ⟨.inr ⟨_, rfl, rfl, .inr trivial⟩, ?_⟩ | refine ⟨.inr ⟨_, rfl, (by simp (disch := omega) only [go_sem, simprocAttr, htk, htk2, htk3, a2, hfl, List.drop_zero, List.map_replicate, List.length_replicate]; done), .inr trivial⟩, ?_⟩)); (· (repeat' first | exact fmn | refine fmc ⟨rfl, ?_⟩))) | (refine run_callMF [(2000, 26)] (hlong) rfl rfl rfl rfl rfl rfl (nodup_of rfl) ?_ ?_ ?_ ?_ rfl ?_; (· (repeat' first | exact fmn | refine fmc ⟨⟨nofun, fun h => by first | rfl | (simp at h; done)⟩, ?_⟩)); (· (refine ⟨rfl, ?_, ?_⟩ <;> (repeat' first | exact fmn | refine fmc ⟨?_, ?_⟩ | exact trivial | exact flat_ints _ | exact flat_map _ (fun _ => rfl) _ | (intro d hd c hc; simp [D.flat, D.cells] at *)))); (· (repeat' first | exact trivial | refine ⟨.inl rfl, ?_⟩ | refine ⟨.inr ⟨_, rfl, rfl, .inr trivial⟩, ?_⟩ | refine ⟨.inr ⟨_, rfl, (by simp (disch := omega) only [go_sem, simprocAttr, htk, htk2, htk3, a2, hfl, List.drop_zero, List.map_replicate, List.length_replicate]; done), .inr trivial⟩, ?_⟩)); (· (repeat' first | exact fmn | refine fmc ⟨rfl, ?_⟩))) | refine rcM [(1000, 21), (1001, 19)] (hcert) rfl ?_ | (refine run_callMF [(2000, 36)] (hall2) rfl rfl rfl rfl rfl rfl (nodup_of rfl) ?_ ?_ ?_ ?_ rfl ?_; (· (repeat' first | exact fmn | refine fmc ⟨⟨nofun, fun h => by first | rfl | (simp at h; done)⟩, ?_⟩)); (· (refine ⟨rfl, ?_, ?_⟩ <;> (repeat' first | exact fmn | refine fmc ⟨?_, ?_⟩ | exact trivial | exact flat_ints _ | exact flat_map _ (fun _ => rfl) _ | (intro d hd c hc; simp [D.flat, D.cells] at *)))); (· (repeat' first | exact trivial | refine ⟨.inl rfl, ?_⟩ | refine ⟨.inr ⟨_, rfl, rfl, .inr trivial⟩, ?_⟩ | refine ⟨.inr ⟨_, rfl, (by simp (disch := omega) only [go_sem, simprocAttr, htk, htk2, htk3, a2, hfl, List.drop_zero, List.map_replicate, List.length_replicate]; done), .inr trivial⟩, ?_⟩)); (· (repeat' first | exact fmn | refine fmc ⟨rfl, ?_⟩))) | (refine run_callMF [(2000, 37)] (hlong2) rfl rfl rfl rfl rfl rfl (nodup_of rfl) ?_ ?_ ?_ ?_ rfl ?_; (· (repeat' first | exact fmn | refine fmc ⟨⟨nofun, fun h => by first | rfl | (simp at h; done)⟩, ?_⟩)); (· (refine ⟨rfl, ?_, ?_⟩ <;> (repeat' first | exact fmn | refine fmc ⟨?_, ?_⟩ | exact trivial | exact flat_ints _ | exact flat_map _ (fun _ => rfl) _ | (intro d hd c hc; simp [D.flat, D.cells] at *)))); (· (repeat' first | exact trivial | refine ⟨.inl rfl, ?_⟩ | refine ⟨.inr ⟨_, rfl, rfl, .inr trivial⟩, ?_⟩ | refine ⟨.inr ⟨_, rfl, (by simp (disch := omega) only [go_sem, simprocAttr, htk, htk2, htk3, a2, hfl, List.drop_zero, List.map_replicate, List.length_replicate]; done), .inr trivial⟩, ?_⟩)); (· (repeat' first | exact fmn | refine fmc ⟨rfl, ?_⟩))) | (refine wpG_split rfl rfl (fun hc => ?_) (fun hc => ?_) <;> try simp only [hcL] at hc) | (refine pw_cond _ rfl rfl (fun hc => ?_) (fun hc => ?_) <;> (try simp only [hcL] at hc) <;> try omega) | simp (disch := omega) only [go_sem, simprocAttr, htk, htk2, htk3, a2, hfl, List.drop_zero, List.map_replicate, List.length_replicate] | apply And.intro | omega | decide +kernel
 refine pw_loopI (κ := Nat) (fun (k : Nat) => k ≤ n) (fun (k : Nat) => [(5, .ptr 21 0 0 0), (8, .ref 37 7 0 n n), (10, .ref 42 1 0 n n), (44, .int n), (45, .int k)]) (fun (k : Nat) => [(21, .cells [.int n, .d (bdsD l), .ref 19 1 0 l.length l.length]), (19, .row 1 (intsL f)), (37, .row 7 (waysD W)), (42, .row 1 ((fillRow (fun v => (wAt W v).1) n k).map D.int))]) (fun (k : Nat) => n - k) 0 ?_ ?_ ?_
 ·exact Nat.zero_le _
 ·exact eL [] _ _ (by refine ⟨?_, ?_⟩ <;> (repeat' first | exact fmn | refine fmc ⟨(by first | rfl | (simp (disch := omega) only [go_sem, simprocAttr, inL, fillRow_zero]; first | done | omega | (congr 1; done))), ?_⟩); done)
 ·intro k hk
  have hlen := fillRow_len (fun v => (wAt W v).1) n k
  rcases Nat.lt_or_ge k n with hlt | hge
  ·have gw : W[k]? = some (wAt W k) := wAt_get (v := (k : Int)) hWl (by omega) (by omega)
   have hst := fillRow_step (g := fun v => (wAt W v).1) hlt
   have gf : (fillRow (fun v => (wAt W v).1) n k)[k]? = _ := fillRow_get hlt
   repeat' first | refine pw_step rfl ?_ | refine pw_ret ?_ | refine wR ?_ | (refine wpG_split rfl rfl (fun hc => ?_) (fun hc => ?_) <;> try simp only [hcL] at hc) | (refine pw_cond _ rfl rfl (fun hc => ?_) (fun hc => ?_) <;> (try simp only [hcL] at hc) <;> try omega) | simp (disch := omega) only [go_sem, simprocAttr, gw, gf, hWl, hlen] | apply And.intro | omega | decide +kernel
   refine ⟨k + 1, ?_, eL [] _ _ (by refine ⟨?_, ?_⟩ <;> (repeat' first | exact fmn | refine fmc ⟨(by first | rfl | (simp (disch := omega) only [go_sem, simprocAttr, inL, hst.symm, List.map_set]; first | done | omega | (congr 1; done))), ?_⟩); done), ?_⟩
   ·omega
   ·omega
  ·repeat' first | refine pw_step rfl ?_ | refine wR ?_ | (refine wpG_split rfl rfl (fun hc => ?_) (fun hc => ?_) <;> try simp only [hcL] at hc) | (refine pw_cond _ rfl rfl (fun hc => ?_) (fun hc => ?_) <;> (try simp only [hcL] at hc) <;> try omega) | simp (disch := omega) only [go_sem, simprocAttr] | apply And.intro | omega | decide +kernel
   have : k = n := by omega
   subst this
   have e : fillRow (fun v => (wAt W v).1) k k = longs W := by
    rw [fillRow_end]
    refine List.ext_getElem? fun u => ?_
    rw [longs, List.getElem?_map, List.getElem?_map]
    rcases Nat.lt_or_ge u k with hu | hu
    ·have gw : W[u]? = some (wAt W u) := wAt_get (v := (u : Int)) hWl (by omega) (by omega)
     rw [gw, List.getElem?_range hu]; rfl
    ·rw [List.getElem?_eq_none (by simpa using hu), List.getElem?_eq_none (by omega)]; rfl
   refine eR [(2000, 42), (2001, 19)] [(2, .ref 2000 1 0 _ _), (3, .ref 2001 1 0 _ _), (4, .int 0)] [(2000, .row 1 _), (2001, .row 1 _)] (by refine ⟨?_, ?_⟩ <;> (repeat' first | exact fmn | refine fmc ⟨(by first | rfl | (simp (disch := omega) only [go_sem, simprocAttr, inL]; first | done | omega | (congr 1; done))), ?_⟩); done) ?_
   refine pw_ret ?_
   exact ⟨⟨_, rfl, rfl, rfl, rfl, trivial⟩, List.forall_mem_cons.2 ⟨row_ob (by rw [e]), List.forall_mem_cons.2 ⟨rfl, List.forall_mem_nil _⟩⟩⟩
end Go.Proofs.Ythbcmebhpabpnaa.Sx
namespace Go.Proofs.Ythbcmebhpabpnaa.Sx
open Go Go.PS Go.Proofs
set_option maxRecDepth 100000
attribute [local irreducible] wpRun wpG CallsTo CallsM

def SolveOk (g : Net) (a f : List Int) : Prop := ∃ n : Nat, g.1 = n ∧ a.length = n ∧ f.length = g.2.length ∧
 CallsM Try.prog 34 [.d (nD g)] [(2000, .dead), (2001, .dead)] (.tup [.ref 2000 1 0 n n, .ref 2001 1 0 g.2.length g.2.length, .int 0]) [(2000, .row 1 (intsL a)), (2001, .row 1 (intsL f))]
theorem shr1 (x : Int) : x.fdiv (2 ^ min 1 64) = x / 2 := by
 have : (2 : Int) ^ min 1 64 = 2 := by decide
 rw [this, Int.fdiv_eq_ediv_of_nonneg _ (by decide)]
set_option maxHeartbeats 8000000 in
theorem Balanced_ok (g : Net) (a b f f2 : List Int) (h : SolveOk g a f) (h2 : SolveOk (mirF g) b f2) (hl : g.2.length ≤ 1000000) (hn : a.length ≤ 1000000) (ha : fromTo a 1099511627776) (hb : fromTo b 1099511627776) :
  CallsM Try.prog 19 [.d (nD g)] [(2000, .dead)] (.tup [.ref 2000 1 0 a.length a.length, .int 0]) [(2000, .row 1 (intsL (midF a b)))] := by
 obtain ⟨m, l⟩ := g
 obtain ⟨n, hmn, hal, hfl, h⟩ := h
 obtain ⟨n2, hmn2, hbl, hfl2, h2⟩ := h2
 dsimp only at hmn hl hfl h
 simp only [mirF] at hmn2 hfl2 h2
 rw [List.length_map] at hfl2 h2
 obtain rfl : n2 = n := by omega
 subst hmn
 rw [hal]
 have htm : (List.map bdD (l.map mirB)).take l.length = List.map bdD (l.map mirB) := List.take_of_length_le (by simp)
 have hbd : bdsD (l.map mirB) = .sl (List.map bdD (l.map mirB)) := rfl
 refine callsM_of Try.func19 rfl (by decide +kernel) (Nat.le_of_ble_eq_true rfl) rfl (nodup_of rfl) rfl rfl rfl ?_
 intro B X w0
 repeat' first | refine pw_step rfl ?_ | refine wR ?_ | refine rcM [(2000, 900), (2001, 901)] (h) rfl ?_ | (refine wpG_split rfl rfl (fun hc => ?_) (fun hc => ?_) <;> try simp only [hcL] at hc) | (refine pw_cond _ rfl rfl (fun hc => ?_) (fun hc => ?_) <;> (try simp only [hcL] at hc) <;> try omega) | simp (disch := omega) only [go_sem, simprocAttr] | apply And.intro | omega | decide +kernel
 refine pw_ent _ (ent_nilC 7 1 902 4 rfl rfl rfl) ?_
 refine pw_loopI (κ := Nat) (fun (k : Nat) => k ≤ l.length) (fun (k : Nat) => [(1, .ptr 1 0 0 0), (4, .ref 900 1 0 n2 n2), (7, .ptr 7 0 0 0), (31, .d (bdsD l)), (32, .int l.length), (33, .int k)]) (fun (k : Nat) => [(1, .cells [.int n2, .d (bdsD l)]), (900, .row 1 (intsL a)), (7, .cells [.int n2, .ref 902 4 0 k k]), (902, .row 4 (((l.map mirB).take k).map bdD))]) (fun (k : Nat) => l.length - k) 0 ?_ ?_ ?_
 ·exact Nat.zero_le _
 ·exact eL [] _ _ (by refine ⟨?_, ?_⟩ <;> (repeat' first | exact fmn | refine fmc ⟨(by first | rfl | (simp (disch := omega) only [go_sem, simprocAttr, inL]; first | done | omega | (congr 1; done))), ?_⟩); done)
 ·intro k hk
  rcases Nat.lt_or_ge k l.length with hlt | hge
  ·obtain ⟨p, hp⟩ := get_some hlt
   have hm : (l.map mirB)[k]? = some (mirB p) := by rw [List.getElem?_map, hp]; rfl
   have hs := take_snoc hm
   have hlen : ((l.map mirB).take k).length = k := by rw [List.length_take, List.length_map]; omega
   have htk : (List.map bdD ((l.map mirB).take k)).take k = List.map bdD ((l.map mirB).take k) := List.take_of_length_le (by simp; omega)
   repeat' first | refine pw_step rfl ?_ | refine pw_ret ?_ | refine wR ?_ | (refine wpG_split rfl rfl (fun hc => ?_) (fun hc => ?_) <;> try simp only [hcL] at hc) | (refine pw_cond _ rfl rfl (fun hc => ?_) (fun hc => ?_) <;> (try simp only [hcL] at hc) <;> try omega) | simp (disch := omega) only [go_sem, simprocAttr, hp, roomy, hlen, htk] | apply And.intro | omega | decide +kernel
   refine ⟨k + 1, ?_, eL [(902, 49)] _ _ (by refine ⟨?_, ?_⟩ <;> (repeat' first | exact fmn | refine fmc ⟨(by first | rfl | (simp (disch := omega) only [go_sem, simprocAttr, inL, hs, List.map_append]; first | done | omega | (congr 1; done))), ?_⟩); done), ?_⟩
   ·omega
   ·omega
  ·have : k = l.length := by omega
   subst this
   have hll : (l.map mirB).take l.length = l.map mirB := List.take_of_length_le (by simp)
   try dsimp only
   rw [hll]
   refine pw_ent _ (ent_freeze 902 4 _ rfl (noGone_of _ rfl) (by decide)) ?_
   repeat' first | refine pw_step rfl ?_ | refine wR ?_ | refine rcM [(2000, 903), (2001, 904)] (h2) rfl ?_ | (refine wpG_split rfl rfl (fun hc => ?_) (fun hc => ?_) <;> try simp only [hcL] at hc) | (refine pw_cond _ rfl rfl (fun hc => ?_) (fun hc => ?_) <;> (try simp only [hcL] at hc) <;> try omega) | simp (disch := omega) only [go_sem, simprocAttr, List.drop_zero, htm, List.length_map] | apply And.intro | omega | decide +kernel
   refine pw_loopI (κ := Nat) (fun (k : Nat) => k ≤ n2) (fun (k : Nat) => [(1, .ptr 1 0 0 0), (4, .ref 900 1 0 n2 n2), (10, .ref 903 1 0 n2 n2), (12, .int (topN a b k)), (62, .int n2), (63, .int k)]) (fun (k : Nat) => [(1, .cells [.int n2, .d (bdsD l)]), (900, .row 1 (intsL a)), (903, .row 1 (intsL b))]) (fun (k : Nat) => n2 - k) 0 ?_ ?_ ?_
   ·exact Nat.zero_le _
   ·exact eL [] _ _ (by refine ⟨?_, ?_⟩ <;> (repeat' first | exact fmn | refine fmc ⟨(by first | rfl | (simp (disch := omega) only [go_sem, simprocAttr, inL]; first | done | omega | (congr 1; done))), ?_⟩); done)
   ·intro k hk
    rcases Nat.lt_or_ge k n2 with hlt | hge2
    ·have ga := at0_at (r := a) (i := k) (by omega)
     have gb := at0_at (r := b) (i := k) (by omega)
     repeat' first | refine pw_step rfl ?_ | refine pw_ret ?_ | refine wR ?_ | (refine wpG_split rfl rfl (fun hc => ?_) (fun hc => ?_) <;> try simp only [hcL] at hc) | (refine pw_cond _ rfl rfl (fun hc => ?_) (fun hc => ?_) <;> (try simp only [hcL] at hc) <;> try omega) | simp (disch := omega) only [go_sem, simprocAttr, ga, gb, hal, hbl, ite_max] | apply And.intro | omega | decide +kernel
     refine ⟨k + 1, ?_, eL [] _ _ (by refine ⟨?_, ?_⟩ <;> (repeat' first | exact fmn | refine fmc ⟨(by first | rfl | (simp (disch := omega) only [go_sem, simprocAttr, inL, topN]; first | done | omega | (congr 1; done))), ?_⟩); done), ?_⟩
     ·omega
     ·omega
    ·repeat' first | refine pw_step rfl ?_ | refine wR ?_ | (refine wpG_split rfl rfl (fun hc => ?_) (fun hc => ?_) <;> try simp only [hcL] at hc) | (refine pw_cond _ rfl rfl (fun hc => ?_) (fun hc => ?_) <;> (try simp only [hcL] at hc) <;> try omega) | simp (disch := omega) only [go_sem, simprocAttr] | apply And.intro | omega | decide +kernel
     have : k = n2 := by omega
     subst this
     have htop := topN_in ha hb k
     have hgt := fun j (h : j < k) => topN_ge (a := a) (b := b) h
     have htt : topN a b a.length = topN a b k := by rw [hal]
     generalize topN a b k = t at htop hgt htt ⊢
     refine pw_loopI (κ := Nat) (fun (u : Nat) => u ≤ k) (fun (u : Nat) => [(4, .ref 900 1 0 k k), (10, .ref 903 1 0 k k), (12, .int t), (14, .ref 79 1 0 k k), (15, .int (lowN (halfAt a b t) u)), (81, .int k), (82, .int u)]) (fun (u : Nat) => [(900, .row 1 (intsL a)), (903, .row 1 (intsL b)), (79, .row 1 ((fillRow (halfAt a b t) k u).map D.int))]) (fun (u : Nat) => k - u) 0 ?_ ?_ ?_
     ·exact Nat.zero_le _
     ·exact eL [] _ _ (by refine ⟨?_, ?_⟩ <;> (repeat' first | exact fmn | refine fmc ⟨(by first | rfl | (simp (disch := omega) only [go_sem, simprocAttr, inL, fillRow_zero]; first | done | omega | (congr 1; done))), ?_⟩); done)
     ·intro u hu
      have hlow := lowN_in (by omega) (fun v => halfAt_in (v := v) ha hb htop) u
      rcases Nat.lt_or_ge u k with huk | hug
      ·have ga := at0_at (r := a) (i := u) (by omega)
       have gb := at0_at (r := b) (i := u) (by omega)
       have g1 := ha u
       have g2 := hb u
       have g3 := hgt u huk
       have hh := halfAt_in (v := u) ha hb htop
       have hdef : (at0 a u + t - at0 b u) / 2 = halfAt a b t u := rfl
       have hlen := fillRow_len (halfAt a b t) k u
       have hst := fillRow_step (g := halfAt a b t) huk
       have hgk : ((fillRow (halfAt a b t) k u).set u (halfAt a b t u))[u]? = some (halfAt a b t u) := List.getElem?_set_self (by omega)
       have hgk2 : ((List.map D.int (fillRow (halfAt a b t) k u)).set u (D.sc (.int .i64 (halfAt a b t u))))[u]? = some (D.sc (.int .i64 (halfAt a b t u))) := List.getElem?_set_self (by rw [List.length_map]; omega)
       have gf : (fillRow (halfAt a b t) k u)[u]? = _ := fillRow_get huk
       rcases Decidable.em (u = 0 ∨ halfAt a b t u < lowN (halfAt a b t) u) with c | c
       ·have hlo : lowN (halfAt a b t) (u + 1) = halfAt a b t u := by rw [lowN, if_pos c]
        repeat' first | refine pw_step rfl ?_ | refine pw_ret ?_ | refine wR ?_ | (refine wpG_split rfl rfl (fun hc => ?_) (fun hc => ?_) <;> try simp only [hcL] at hc) | (refine pw_cond _ rfl rfl (fun hc => ?_) (fun hc => ?_) <;> (try simp only [hcL] at hc) <;> try omega) | simp (disch := omega) only [go_sem, simprocAttr, ga, gb, hal, hbl, hlen, gf, shr1, hdef, hgk, hgk2, List.length_set] | apply And.intro | omega | decide +kernel
        all_goals
         refine ⟨u + 1, ?_, eL [] _ _ (by refine ⟨?_, ?_⟩ <;> (repeat' first | exact fmn | refine fmc ⟨(by first | rfl | (simp (disch := omega) only [go_sem, simprocAttr, inL, hst.symm, hlo, List.map_set]; first | done | omega | (congr 1; done))), ?_⟩); done), ?_⟩
         ·omega
         ·omega
       ·have hlo : lowN (halfAt a b t) (u + 1) = lowN (halfAt a b t) u := by rw [lowN, if_neg c]
        repeat' first | refine pw_step rfl ?_ | refine pw_ret ?_ | refine wR ?_ | (refine wpG_split rfl rfl (fun hc => ?_) (fun hc => ?_) <;> try simp only [hcL] at hc) | (refine pw_cond _ rfl rfl (fun hc => ?_) (fun hc => ?_) <;> (try simp only [hcL] at hc) <;> try omega) | simp (disch := omega) only [go_sem, simprocAttr, ga, gb, hal, hbl, hlen, gf, shr1, hdef, hgk, hgk2, List.length_set] | apply And.intro | omega | decide +kernel
        all_goals
         refine ⟨u + 1, ?_, eL [] _ _ (by refine ⟨?_, ?_⟩ <;> (repeat' first | exact fmn | refine fmc ⟨(by first | rfl | (simp (disch := omega) only [go_sem, simprocAttr, inL, hst.symm, hlo, List.map_set]; first | done | omega | (congr 1; done))), ?_⟩); done), ?_⟩
         ·omega
         ·omega
      ·repeat' first | refine pw_step rfl ?_ | refine wR ?_ | (refine wpG_split rfl rfl (fun hc => ?_) (fun hc => ?_) <;> try simp only [hcL] at hc) | (refine pw_cond _ rfl rfl (fun hc => ?_) (fun hc => ?_) <;> (try simp only [hcL] at hc) <;> try omega) | simp (disch := omega) only [go_sem, simprocAttr] | apply And.intro | omega | decide +kernel
       have : u = k := by omega
       subst this
       have hrow : fillRow (halfAt a b t) u u = turnRow (halfAt a b t) (fun v => halfAt a b t v - lowN (halfAt a b t) u) u 0 := by
        rw [fillRow_end, turnRow_zero]; rfl
       have hwl : lowN (halfAt a b t) a.length = lowN (halfAt a b t) u := by rw [hal]
       rw [hrow]
       generalize lowN (halfAt a b t) u = w at hlow hwl ⊢
       refine pw_loopI (κ := Nat) (fun (v : Nat) => v ≤ u) (fun (v : Nat) => [(14, .ref 79 1 0 u u), (15, .int w), (116, .int u), (117, .int v)]) (fun (v : Nat) => [(79, .row 1 ((turnRow (halfAt a b t) (fun v => halfAt a b t v - w) u v).map D.int))]) (fun (v : Nat) => u - v) 0 ?_ ?_ ?_
       ·exact Nat.zero_le _
       ·exact eL [] _ _ (by refine ⟨?_, ?_⟩ <;> (repeat' first | exact fmn | refine fmc ⟨(by first | rfl | (simp (disch := omega) only [go_sem, simprocAttr, inL]; first | done | omega | (congr 1; done))), ?_⟩); done)
       ·intro v hv
        have hlen := turnRow_len (halfAt a b t) (fun v => halfAt a b t v - w) u v
        rcases Nat.lt_or_ge v u with hvu | hvg
        ·have hg : (turnRow (halfAt a b t) (fun v => halfAt a b t v - w) u v)[v]? = some (halfAt a b t v) := by rw [turnRow_get hvu, if_neg (by omega)]
         have hst := turnRow_step (h := halfAt a b t) (g := fun v => halfAt a b t v - w) hvu
         have hh := halfAt_in (v := v) ha hb htop
         repeat' first | refine pw_step rfl ?_ | refine pw_ret ?_ | refine wR ?_ | (refine wpG_split rfl rfl (fun hc => ?_) (fun hc => ?_) <;> try simp only [hcL] at hc) | (refine pw_cond _ rfl rfl (fun hc => ?_) (fun hc => ?_) <;> (try simp only [hcL] at hc) <;> try omega) | simp (disch := omega) only [go_sem, simprocAttr, hg, hlen] | apply And.intro | omega | decide +kernel
         refine ⟨v + 1, ?_, eL [] _ _ (by refine ⟨?_, ?_⟩ <;> (repeat' first | exact fmn | refine fmc ⟨(by first | rfl | (simp (disch := omega) only [go_sem, simprocAttr, inL, hst.symm, List.map_set]; first | done | omega | (congr 1; done))), ?_⟩); done), ?_⟩
         ·omega
         ·omega
        ·repeat' first | refine pw_step rfl ?_ | refine wR ?_ | (refine wpG_split rfl rfl (fun hc => ?_) (fun hc => ?_) <;> try simp only [hcL] at hc) | (refine pw_cond _ rfl rfl (fun hc => ?_) (fun hc => ?_) <;> (try simp only [hcL] at hc) <;> try omega) | simp (disch := omega) only [go_sem, simprocAttr] | apply And.intro | omega | decide +kernel
         have : v = u := by omega
         subst this
         have e : midF a b = rowN (fun x => halfAt a b t x - w) v := by simp only [midF, rowN, htt, hwl]; rw [hal]
         refine eR [(2000, 79)] [(2, .ref 2000 1 0 _ _), (3, .int 0)] [(2000, .row 1 _)] (by refine ⟨?_, ?_⟩ <;> (repeat' first | exact fmn | refine fmc ⟨(by first | rfl | (simp (disch := omega) only [go_sem, simprocAttr, inL]; first | done | omega | (congr 1; done))), ?_⟩); done) ?_
         refine pw_ret ?_
         exact ⟨⟨_, rfl, rfl, rfl, trivial⟩, List.forall_mem_cons.2 ⟨row_ob (by rw [turnRow_end, e]), List.forall_mem_nil _⟩⟩
end Go.Proofs.Ythbcmebhpabpnaa.Sx
namespace Go.Proofs.Ythbcmebhpabpnaa.Sx
open Go Go.PS Go.Proofs
set_option maxRecDepth 100000
attribute [local irreducible] wpRun wpG CallsTo CallsM
theorem solve_of (n : Nat) (l : List Bd) (R : Nat) (a f : List Int) (hg : nOk (n, l) = true) (h0 : (longestF n (stepsL l (zeros l)) (allI n)).isSome = true)
  (hc : certF n l R (zeros l) (needRow l n l.length) = some f) (hfl : f.length = l.length) (hW : (longestF n (stepsL l f) (allI n)).map longs = some a) (hal : a.length = n) : SolveOk (n, l) a f := by
 obtain ⟨W0, h0⟩ := Option.isSome_iff_exists.1 h0
 cases h : longestF n (stepsL l f) (allI n) with
 | none => rw [h] at hW; cases hW
 | some W =>
  rw [h] at hW
  simp only [Option.map_some, Option.some.injEq] at hW
  subst hW
  exact ⟨n, rfl, hal, hfl, Solve_ok n l f R W0 W hg h0 hc hfl h (by simpa [longs] using hal)⟩
theorem fromTo_of {l : List Int} (h : (l.all fun x => decide (0 ≤ x ∧ x ≤ 1099511627776)) = true) : fromTo l 1099511627776 := by
 intro v
 rw [at0]
 cases hx : l[((v : Nat) : Int).toNat]? with
 | none => simp
 | some x =>
  simp only [List.all_eq_true, decide_eq_true_eq] at h
  exact h x (List.mem_of_getElem? hx)
end Go.Proofs.Ythbcmebhpabpnaa.Sx
