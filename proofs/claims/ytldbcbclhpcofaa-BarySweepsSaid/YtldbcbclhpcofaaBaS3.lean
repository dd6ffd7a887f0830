/- Stable sorting: a stretch of a row sorted by insertion. -/
import Derived.Test.YtldbcbclhpcofaaCf
set_option linter.unusedSimpArgs false
set_option linter.unusedVariables false
namespace Go.Proofs.Ytldbcbclhpcofaa
open Go Go.PS Go.Proofs
open Go.Stb
set_option maxRecDepth 100000
attribute [local irreducible] wpRun wpG CallsTo CallsM

def Back (c : Nat → Nat → Int) (R : Nat → Nat → Prop) (s x : Nat) : Prop := c x s < 0 ↔ R x s
theorem back_take {c : Nat → Nat → Int} {R : Nat → Nat → Prop} {M : List Nat} (h : M.Pairwise (Back c R)) {k x s : Nat} (hx : M[k]? = some x) (hs : s ∈ M.take k) : Back c R s x := by
 rw [← List.take_append_drop k M] at h
 exact (List.pairwise_append.1 h).2.2 s hs x (by rw [drop_cons hx]; simp)
theorem ne_take {M : List Nat} (h : M.Nodup) {k x s : Nat} (hx : M[k]? = some x) (hs : s ∈ M.take k) : s ≠ x := by
 rw [← List.take_append_drop k M, List.nodup_append] at h
 exact h.2.2 s hs x (by rw [drop_cons hx]; simp)
set_option maxHeartbeats 2000000 in
theorem isort_spec (v : Nat → Int) (p : Nat → List D) (g : Nat) (c : Nat → Nat → Int) (R : Nat → Nat → Prop) (hR : Ord R) (hcmp : ∀ j k, CallsTo Try.prog g [elD v p j, elD v p k] (.int (c j k)))
  (P M Q T : List Nat) (hb : M.Pairwise (Back c R)) (hnd : M.Nodup) (hT : T.Perm M) (hTs : T.Pairwise R) (N : Nat) (hN : P.length + M.length + Q.length = N) (hN1 : N ≤ 1000000) (a e : Int) (ha : a = P.length) (he : e = (P.length + M.length : Nat)) :
  CallsM Try.prog 80 [.ref 1000 2 0 N N, .int a, .int e, .d (.fn g [])] [(1000, .row 2 ((P ++ M ++ Q).map (elD v p)))] (.tup []) [(1000, .row 2 ((P ++ T ++ Q).map (elD v p)))] := by
 subst ha he
 obtain ⟨A, hA⟩ : ∃ A, A = P.length := ⟨_, rfl⟩
 rw [← hA]
 refine callsM_of Try.func80 rfl (by decide +kernel) (Nat.le_of_ble_eq_true rfl) rfl (nodup_of rfl) rfl rfl rfl ?_
 intro B X w0
 refine pw_post ?_
 repeat' first | refine pw_seq ?_ | refine pw_skip ?_ | refine pw_ret ?_ | refine pw_exit ?_ | refine pw_block ?_ | refine pw_region (fun _ => false) hmix ?_ | (refine wpG_split rfl rfl (fun hc => ?_) (fun hc => ?_) <;> try simp only [hcL, reduceCtorEq] at hc) | (refine pw_cond _ rfl rfl (fun hc => ?_) (fun hc => ?_) <;> (try simp only [hcL, reduceCtorEq] at hc) <;> try (exfalso; omega)) | simp (maxSteps := 1000000) (disch := omega) only [go_sem, simprocAttr] | apply And.intro | omega | decide +kernel
 refine pw_loopI (κ := Nat × List Nat) (fun (q : Nat × List Nat) => match q with | (k, S) => 1 ≤ k ∧ k ≤ M.length + 1 ∧ S.Pairwise R ∧ S.Perm (M.take k)) (fun (q : Nat × List Nat) => match q with | (k, S) => [(0, .ref 1000 2 0 N N), (1, .int A), (2, .int ((A + M.length : Nat) : Int)), (3, .d (.fn g [])), (8, .int ((A + k : Nat) : Int))]) (fun (q : Nat × List Nat) => match q with | (k, S) => [(1000, .row 2 ((P ++ S ++ M.drop k ++ Q).map (elD v p)))]) (fun (q : Nat × List Nat) => match q with | (k, S) => M.length + 1 - k) (1, M.take 1) ?_ ?_ ?_
 ·refine ⟨Nat.le_refl _, by omega, ?_, List.Perm.refl _⟩
  rcases M with _ | ⟨x, M⟩
  ·exact List.Pairwise.nil
  ·exact List.pairwise_singleton _ _
 ·have e0 : P ++ M.take 1 ++ M.drop 1 ++ Q = P ++ M ++ Q := by rw [List.append_assoc P, List.take_append_drop]
  exact eL [] _ _ (by refine ⟨?_, ?_⟩ <;> (repeat' first | exact List.forall_mem_nil _ | refine List.forall_mem_cons.2 ⟨(by first | rfl | (simp (disch := omega) only [go_sem, simprocAttr, inL, e0, Int.natCast_add, Int.natCast_one]; first | done | omega | (congr 1; done))), ?_⟩); done)
 ·rintro ⟨k, S⟩ ⟨hk1, hk2, hSs, hSp⟩
  dsimp only at hk1 hk2 hSs hSp ⊢
  have hSl := hSp.length_eq
  rw [List.length_take] at hSl
  rcases Nat.lt_or_ge k M.length with hlt | hge
  ·obtain ⟨x, hx⟩ := get_some hlt
   have hdr := drop_cons hx
   have hSx : ∀ s, s ∈ S → Back c R s x ∧ s ≠ x := fun s hs => ⟨back_take hb hx (hSp.mem_iff.1 hs), ne_take hnd hx (hSp.mem_iff.1 hs)⟩
   generalize hQ2 : M.drop (k + 1) ++ Q = Q2 at *
   have hQl : Q2.length + k + 1 = M.length + Q.length := by rw [← hQ2, List.length_append, List.length_drop]; omega
   repeat' first | refine pw_seq ?_ | refine pw_skip ?_ | refine pw_ret ?_ | refine pw_exit ?_ | refine pw_block ?_ | refine pw_region (fun _ => false) hmix ?_ | (refine wpG_split rfl rfl (fun hc => ?_) (fun hc => ?_) <;> try simp only [hcL, reduceCtorEq] at hc) | (refine pw_cond _ rfl rfl (fun hc => ?_) (fun hc => ?_) <;> (try simp only [hcL, reduceCtorEq] at hc) <;> try (exfalso; omega)) | simp (maxSteps := 1000000) (disch := omega) only [go_sem, simprocAttr] | apply And.intro | omega | decide +kernel
   refine pw_loopI (κ := List Nat × List Nat) (fun (q : List Nat × List Nat) => match q with | (S1, S2) => S1 ++ S2 = S ∧ (∀ s, s ∈ S2 → R x s)) (fun (q : List Nat × List Nat) => match q with | (S1, S2) => [(0, .ref 1000 2 0 N N), (1, .int A), (2, .int ((A + M.length : Nat) : Int)), (3, .d (.fn g [])), (8, .int ((A + k : Nat) : Int)), (9, .int ((A + S1.length : Nat) : Int))]) (fun (q : List Nat × List Nat) => match q with | (S1, S2) => [(1000, .row 2 ((P ++ S1 ++ x :: (S2 ++ Q2)).map (elD v p)))]) (fun (q : List Nat × List Nat) => match q with | (S1, S2) => S1.length) (S, []) ?_ ?_ ?_
   ·exact ⟨List.append_nil _, fun s hs => by cases hs⟩
   ·have e0 : P ++ S ++ M.drop k ++ Q = P ++ S ++ x :: Q2 := by rw [hdr, ← hQ2]; simp
    have e1 : S.length = k := by omega
    exact eL [] _ _ (by refine ⟨?_, ?_⟩ <;> (repeat' first | exact List.forall_mem_nil _ | refine List.forall_mem_cons.2 ⟨(by first | rfl | (simp (disch := omega) only [go_sem, simprocAttr, inL, e0, e1, List.nil_append]; first | done | omega | (congr 1; done))), ?_⟩); done)
   ·rintro ⟨S1, S2⟩ ⟨hSS, hS2⟩
    dsimp only at hSS hS2 ⊢
    have hl0 : S1.length + S2.length = k := by
     have := congrArg List.length hSS
     rw [List.length_append] at this; omega
    have hdone : S1 = [] ∨ (∃ S3 s, S1 = S3 ++ [s]) := by
     rcases List.eq_nil_or_concat S1 with h | ⟨l, z, h⟩
     ·exact .inl h
     ·exact .inr ⟨l, z, by rw [h, List.concat_eq_append]⟩
    have hfin : (∀ s, s ∈ S1 → R s x) → (S1 ++ x :: S2).Pairwise R ∧ (S1 ++ x :: S2).Perm (M.take (k + 1)) := fun h => by
     refine ⟨insert_sorted hR (by rw [hSS]; exact hSs) h hS2, ?_⟩
     rw [take_snoc hx]
     refine List.perm_middle.trans ?_
     rw [hSS]
     exact (List.perm_append_comm (l₁ := [x]) (l₂ := S)).trans (hSp.append_right [x])
    have hrow : P ++ S1 ++ x :: (S2 ++ Q2) = P ++ (S1 ++ x :: S2) ++ M.drop (k + 1) ++ Q := by rw [← hQ2]; simp
    have hkk : ((A + k : Nat) : Int) + 1 = ((A + (k + 1) : Nat) : Int) := by omega
    rcases hdone with rfl | ⟨S3, s, rfl⟩
    ·obtain ⟨f1, f2⟩ := hfin (fun s hs => by cases hs)
     have z0 : A + ([] : List Nat).length = A := rfl
     rw [z0]
     repeat' first | refine pw_seq ?_ | refine pw_skip ?_ | refine pw_ret ?_ | refine pw_exit ?_ | refine pw_block ?_ | refine pw_region (fun _ => false) hmix ?_ | (refine wpG_split rfl rfl (fun hc => ?_) (fun hc => ?_) <;> try simp only [hcL, reduceCtorEq] at hc) | (refine pw_cond _ rfl rfl (fun hc => ?_) (fun hc => ?_) <;> (try simp only [hcL, reduceCtorEq] at hc) <;> try (exfalso; omega)) | simp (maxSteps := 1000000) (disch := omega) only [go_sem, simprocAttr] | apply And.intro | omega | decide +kernel
     have hrow0 : P ++ x :: (S2 ++ Q2) = P ++ x :: S2 ++ M.drop (k + 1) ++ Q := by rw [← hQ2]; simp
     refine ⟨(k + 1, x :: S2), ?_, eL [] _ _ (by refine ⟨?_, ?_⟩ <;> (repeat' first | exact List.forall_mem_nil _ | refine List.forall_mem_cons.2 ⟨(by first | rfl | (simp (disch := omega) only [go_sem, simprocAttr, inL, hrow0, hkk]; first | done | omega | (congr 1; done))), ?_⟩); done), ?_⟩
     ·exact ⟨by omega, by omega, f1, f2⟩
     ·dsimp only; omega
    ·obtain ⟨hbk, hne⟩ := hSx s (by rw [← hSS]; simp)
     have h1 := hcmp x s
     rw [List.length_append, List.length_singleton] at hl0
     obtain ⟨J, hJ⟩ : ∃ J, J = A + S3.length := ⟨_, rfl⟩
     have z0 : A + (S3 ++ [s]).length = J + 1 := by rw [List.length_append, List.length_singleton]; omega
     have g1 : (P ++ (S3 ++ [s]) ++ x :: (S2 ++ Q2))[J + 1]? = some x := by
      rw [← z0, hA, ← List.length_append]; exact get_mid _ _ _
     have rw1 : P ++ (S3 ++ [s]) ++ x :: (S2 ++ Q2) = (P ++ S3) ++ s :: x :: (S2 ++ Q2) := by simp
     have hPJ : (P ++ S3).length = J := by rw [List.length_append]; omega
     have g2 : (P ++ (S3 ++ [s]) ++ x :: (S2 ++ Q2))[J]? = some s := by rw [rw1, ← hPJ]; exact get_mid _ _ _
     have hln : (P ++ (S3 ++ [s]) ++ x :: (S2 ++ Q2)).length = N := by
      simp only [List.length_append, List.length_cons, List.length_nil]; omega
     have hst : ((P ++ (S3 ++ [s]) ++ x :: (S2 ++ Q2)).set (J + 1) s).set J x = P ++ S3 ++ x :: (s :: S2 ++ Q2) := by
      have r1 : (P ++ (S3 ++ [s]) ++ x :: (S2 ++ Q2)).set (J + 1) s = (P ++ S3) ++ s :: s :: (S2 ++ Q2) := by
       rw [← z0, hA, ← List.length_append, set_mid]; simp
      rw [r1, ← hPJ, set_mid]; simp
     have g3 : ((P ++ (S3 ++ [s]) ++ x :: (S2 ++ Q2)).set (J + 1) s)[J]? = some s := by
      rw [List.getElem?_set, if_neg (by omega), g2]
     rw [z0]
     rw [hrow] at *
     generalize hLL : P ++ (S3 ++ [s] ++ x :: S2) ++ M.drop (k + 1) ++ Q = LL at *
     have g4 : ((LL.map (elD v p)).set (J + 1) (elD v p s))[J]? = some (elD v p s) := by rw [← List.map_set, List.getElem?_map, g3]; rfl
     have hs2 : ((LL.map (elD v p)).set (J + 1) (elD v p s)).set J (elD v p x) = (P ++ S3 ++ x :: (s :: S2 ++ Q2)).map (elD v p) := by rw [← hst, List.map_set, List.map_set]
     have n1 : (((J + 1 : Nat) : Int) - 1).toNat = J := by omega
     have n2 : (((J + 1 : Nat) : Int)).toNat = J + 1 := by omega
     have n3 : ((J + 1 : Nat) : Int) - 1 = (J : Int) := by omega
     by_cases hlt2 : c x s < 0
     ·repeat' first | refine pw_seq ?_ | refine pw_skip ?_ | refine pw_ret ?_ | refine pw_exit ?_ | refine pw_block ?_ | refine pw_region (fun _ => false) hmix ?_ | (refine rc (h1) rfl ?_ ?_; (· first | rfl | (simp (disch := omega) only [go_sem, simprocAttr, n1, n2, n3, g1, g2, hln, hlt2, List.length_set, g4, hs2]; done))) | (refine wpG_split rfl rfl (fun hc => ?_) (fun hc => ?_) <;> try simp only [hcL, reduceCtorEq] at hc) | (refine pw_cond _ rfl rfl (fun hc => ?_) (fun hc => ?_) <;> (try simp only [hcL, reduceCtorEq] at hc) <;> try (exfalso; omega)) | simp (maxSteps := 1000000) (disch := omega) only [go_sem, simprocAttr, n1, n2, n3, g1, g2, hln, hlt2, List.length_set, g4, hs2] | apply And.intro | omega | decide +kernel
      refine ⟨(S3, s :: S2), ?_, eL [] _ _ (by refine ⟨?_, ?_⟩ <;> (repeat' first | exact List.forall_mem_nil _ | refine List.forall_mem_cons.2 ⟨(by first | rfl | (simp (disch := omega) only [go_sem, simprocAttr, inL, hs2, hJ]; first | done | omega | (congr 1; done))), ?_⟩); done), ?_⟩
      ·dsimp only
       exact ⟨by rw [← hSS]; simp, fun z hz => by
        rcases List.mem_cons.1 hz with rfl | hz
        ·exact hbk.1 hlt2
        ·exact hS2 z hz⟩
      ·dsimp only; rw [List.length_append, List.length_singleton]; omega
     ·have hsx : R s x := by
       rcases hR.total s x hne with h | h
       ·exact h
       ·exact absurd (hbk.2 h) hlt2
      have hS1s : (S3 ++ [s]).Pairwise R := by
       rw [← hSS] at hSs
       exact (List.pairwise_append.1 hSs).1
      obtain ⟨f1, f2⟩ := hfin (fun z hz => by
       rcases List.mem_append.1 hz with hz | hz
       ·exact hR.trans z s x ((List.pairwise_append.1 hS1s).2.2 z hz s (by simp)) hsx
       ·rw [List.mem_singleton.1 hz]; exact hsx)
      repeat' first | refine pw_seq ?_ | refine pw_skip ?_ | refine pw_ret ?_ | refine pw_exit ?_ | refine pw_block ?_ | refine pw_region (fun _ => false) hmix ?_ | (refine rc (h1) rfl ?_ ?_; (· first | rfl | (simp (disch := omega) only [go_sem, simprocAttr, n1, n2, n3, g1, g2, hln, hlt2]; done))) | (refine wpG_split rfl rfl (fun hc => ?_) (fun hc => ?_) <;> try simp only [hcL, reduceCtorEq] at hc) | (refine pw_cond _ rfl rfl (fun hc => ?_) (fun hc => ?_) <;> (try simp only [hcL, reduceCtorEq] at hc) <;> try (exfalso; omega)) | simp (maxSteps := 1000000) (disch := omega) only [go_sem, simprocAttr, n1, n2, n3, g1, g2, hln, hlt2] | apply And.intro | omega | decide +kernel
      refine ⟨(k + 1, S3 ++ [s] ++ x :: S2), ?_, eL [] _ _ (by refine ⟨?_, ?_⟩ <;> (repeat' first | exact List.forall_mem_nil _ | refine List.forall_mem_cons.2 ⟨(by first | rfl | (simp (disch := omega) only [go_sem, simprocAttr, inL, hLL, hkk]; first | done | omega | (congr 1; done))), ?_⟩); done), ?_⟩
      ·exact ⟨by omega, by omega, f1, f2⟩
      ·dsimp only; omega
  ·have hS : S = T := by
    rw [List.take_of_length_le hge] at hSp
    exact uniq hR (hSp.trans hT.symm) hSs hTs
   subst hS
   repeat' first | refine pw_seq ?_ | refine pw_skip ?_ | refine pw_ret ?_ | refine pw_exit ?_ | refine pw_block ?_ | refine pw_region (fun _ => false) hmix ?_ | (refine wpG_split rfl rfl (fun hc => ?_) (fun hc => ?_) <;> try simp only [hcL, reduceCtorEq] at hc) | (refine pw_cond _ rfl rfl (fun hc => ?_) (fun hc => ?_) <;> (try simp only [hcL, reduceCtorEq] at hc) <;> try (exfalso; omega)) | simp (maxSteps := 1000000) (disch := omega) only [go_sem, simprocAttr] | apply And.intro | omega | decide +kernel
   have e0 : P ++ S ++ M.drop k ++ Q = P ++ S ++ Q := by rw [List.drop_of_length_le hge, List.append_nil]
   refine ⟨_, entL_iff.1 (eL [] [] [(1000, .row 2 ((P ++ S ++ Q).map (elD v p)))] (by refine ⟨?_, ?_⟩ <;> (repeat' first | exact List.forall_mem_nil _ | refine List.forall_mem_cons.2 ⟨(by first | rfl | (simp (disch := omega) only [go_sem, simprocAttr, inL, e0]; first | done | omega | (congr 1; done))), ?_⟩); done)), ?_⟩
   exact ⟨⟨[], rfl, trivial⟩, fmc ⟨rfl, fmn⟩⟩
end Go.Proofs.Ytldbcbclhpcofaa
namespace Go.Proofs.Ytldbcbclhpcofaa
open Go Go.PS Go.Proofs
open Go.Stb
set_option maxRecDepth 100000
attribute [local irreducible] wpRun wpG CallsTo CallsM

theorem wrapU {x : Int} (h : 0 ≤ x) (h2 : x ≤ 18446744073709551615) : IntKind.u64.wrap x = x := by
 simp [IntKind.wrap, IntKind.bits, IntKind.signed]
 omega
theorem shr1 {x : Int} (h : 0 ≤ x) : x.fdiv (2 ^ min 1 64) = x / 2 := by
 rw [Int.fdiv_eq_ediv_of_nonneg _ (by decide)]; rfl
def putN (P A Q : List Nat) (y : Nat) (k : Nat) : List Nat := P ++ A.take k ++ y :: (A.drop k ++ Q)
theorem putN_len {P A Q : List Nat} {y k : Nat} (hk : k ≤ A.length) : (putN P A Q y k).length = P.length + A.length + 1 + Q.length := by
 simp only [putN, List.length_append, List.length_cons, List.length_take, List.length_drop]; omega
theorem putN_at {P A Q : List Nat} {y k : Nat} (hk : k ≤ A.length) : (putN P A Q y k)[P.length + k]? = some y := by
 have : (P ++ A.take k).length = P.length + k := by rw [List.length_append, List.length_take]; omega
 rw [putN, ← this]; exact get_mid _ _ _
theorem putN_next {P A Q : List Nat} {y k x : Nat} (hx : A[k]? = some x) : (putN P A Q y k)[P.length + k + 1]? = some x := by
 have hk := (List.getElem?_eq_some_iff.1 hx).1
 have e : putN P A Q y k = (P ++ A.take k ++ [y]) ++ x :: (A.drop (k + 1) ++ Q) := by rw [putN, drop_cons hx]; simp
 have : (P ++ A.take k ++ [y]).length = P.length + k + 1 := by simp only [List.length_append, List.length_take, List.length_cons, List.length_nil]; omega
 rw [e, ← this]; exact get_mid _ _ _
theorem putN_prev {P A Q : List Nat} {y k x : Nat} (hx : A[k]? = some x) : (putN P A Q y (k + 1))[P.length + k]? = some x := by
 have hk := (List.getElem?_eq_some_iff.1 hx).1
 have e : putN P A Q y (k + 1) = (P ++ A.take k) ++ x :: (y :: (A.drop (k + 1) ++ Q)) := by rw [putN, take_snoc hx]; simp
 have : (P ++ A.take k).length = P.length + k := by simp only [List.length_append, List.length_take]; omega
 rw [e, ← this]; exact get_mid _ _ _
theorem putN_up {P A Q : List Nat} {y k x : Nat} (hx : A[k]? = some x) : ((putN P A Q y k).set (P.length + k) x).set (P.length + k + 1) y = putN P A Q y (k + 1) := by
 have hk := (List.getElem?_eq_some_iff.1 hx).1
 have l1 : (P ++ A.take k).length = P.length + k := by simp only [List.length_append, List.length_take]; omega
 have e : (putN P A Q y k).set (P.length + k) x = (P ++ A.take k ++ [x]) ++ x :: (A.drop (k + 1) ++ Q) := by rw [putN, ← l1, set_mid, drop_cons hx]; simp
 have l2 : (P ++ A.take k ++ [x]).length = P.length + k + 1 := by simp only [List.length_append, List.length_take, List.length_cons, List.length_nil]; omega
 rw [e, ← l2, set_mid, putN, take_snoc hx]; simp
theorem putN_down {P A Q : List Nat} {y k x : Nat} (hx : A[k]? = some x) : ((putN P A Q y (k + 1)).set (P.length + k + 1) x).set (P.length + k) y = putN P A Q y k := by
 have hk := (List.getElem?_eq_some_iff.1 hx).1
 have l1 : (P ++ A.take k).length = P.length + k := by simp only [List.length_append, List.length_take]; omega
 have l2 : (P ++ A.take (k + 1)).length = P.length + k + 1 := by simp only [List.length_append, List.length_take]; omega
 have e : (putN P A Q y (k + 1)).set (P.length + k + 1) x = (P ++ A.take k) ++ x :: (x :: (A.drop (k + 1) ++ Q)) := by rw [putN, ← l2, set_mid, take_snoc hx]; simp
 rw [e, ← l1, set_mid, putN, drop_cons hx]; simp
set_option maxHeartbeats 4000000 in
theorem merge_left (v : Nat → Int) (p : Nat → List D) (g : Nat) (c : Nat → Nat → Int) (R : Nat → Nat → Prop) (hR : Ord R) (hcmp : ∀ j k, CallsTo Try.prog g [elD v p j, elD v p k] (.int (c j k)))
  (P B Q T : List Nat) (x : Nat) (hBs : B.Pairwise R) (hb : ∀ z, z ∈ B → Back c R x z) (hne : ∀ z, z ∈ B → x ≠ z) (hT : T.Perm ([x] ++ B)) (hTs : T.Pairwise R) (N : Nat) (hN : P.length + (1 + B.length) + Q.length = N) (hN1 : N ≤ 1000000) (a m b : Int)
  (ha : a = P.length) (hm : m = (P.length + 1 : Nat)) (hbb : b = (P.length + 1 + B.length : Nat)) :
  CallsM Try.prog 81 [.ref 1000 2 0 N N, .int a, .int m, .int b, .d (.fn g [])] [(1000, .row 2 ((P ++ [x] ++ B ++ Q).map (elD v p)))] (.tup []) [(1000, .row 2 ((P ++ T ++ Q).map (elD v p)))] := by
 subst ha hm hbb
 have hrow0 : P ++ [x] ++ B ++ Q = putN P B Q x 0 := by simp [putN]
 rw [hrow0]
 have hpl : ∀ k, k ≤ B.length → (putN P B Q x k).length = N := fun k hk => by rw [putN_len hk]; omega
 have hpa : ∀ k, k ≤ B.length → (putN P B Q x k)[P.length + k]? = some x := fun k hk => putN_at hk
 have hpn : ∀ k z, B[k]? = some z → (putN P B Q x k)[P.length + k + 1]? = some z := fun k z => putN_next
 have hpu : ∀ k z, B[k]? = some z → ((putN P B Q x k).set (P.length + k) z).set (P.length + k + 1) x = putN P B Q x (k + 1) := fun k z => putN_up
 have hp0 : ∀ k z, B[k]? = some z → (putN P B Q x 0)[P.length + 1 + k]? = some z := fun k z hz => by
  have e : putN P B Q x 0 = P ++ x :: (B ++ Q) := by simp [putN]
  rw [e, List.getElem?_append_right (by omega), show P.length + 1 + k - P.length = k + 1 by omega, List.getElem?_cons_succ, List.getElem?_append_left (List.getElem?_eq_some_iff.1 hz).1, hz]
 have hend : ∀ i, i ≤ B.length → (∀ z, 0 < i → B[i - 1]? = some z → R z x) → (∀ z, B[i]? = some z → R x z) → P ++ T ++ Q = putN P B Q x i := fun i hi h1 h2 => by
  have h3 := put_sorted hR hi hBs h1 h2
  have h4 : (B.take i ++ x :: B.drop i).Perm ([x] ++ B) := by
   refine List.perm_middle.trans ?_
   rw [List.take_append_drop]; exact List.Perm.refl _
  have : T = B.take i ++ x :: B.drop i := uniq hR (hT.trans h4.symm) hTs h3
  rw [this, putN]; simp
 generalize hA : P.length = A0 at *
 generalize putN P B Q x = L at *
 generalize P ++ T ++ Q = LT at *
 have d1 : ((A0 + 1 : Nat) : Int) - (A0 : Int) = 1 := by omega
 refine callsM_of Try.func81 rfl (by decide +kernel) (Nat.le_of_ble_eq_true rfl) rfl (nodup_of rfl) rfl rfl rfl ?_
 intro B0 X w0
 refine pw_post ?_
 have g0 := hpa (0) (Nat.zero_le _)
 rw [Nat.add_zero] at g0
 have l0 := hpl (0) (Nat.zero_le _)
 repeat' first | refine pw_seq ?_ | refine pw_skip ?_ | refine pw_ret ?_ | refine pw_exit ?_ | refine pw_block ?_ | refine pw_region (fun _ => false) hmix ?_ | (refine wpG_split rfl rfl (fun hc => ?_) (fun hc => ?_) <;> try simp only [hcL, reduceCtorEq] at hc) | (refine pw_cond _ rfl rfl (fun hc => ?_) (fun hc => ?_) <;> (try simp only [hcL, reduceCtorEq] at hc) <;> try (exfalso; omega)) | simp (maxSteps := 1000000) (disch := omega) only [go_sem, simprocAttr, d1] | apply And.intro | omega | decide +kernel
 refine pw_loopI (κ := Nat × Nat) (fun (q : Nat × Nat) => match q with | (i, j) => i ≤ j ∧ j ≤ B.length ∧ (∀ z, 0 < i → B[i - 1]? = some z → R z x) ∧ (∀ z, B[j]? = some z → R x z)) (fun (q : Nat × Nat) => match q with | (i, j) => [(0, .ref 1000 2 0 N N), (1, .int A0), (4, .d (.fn g [])), (10, .int ((A0 + 1 + i : Nat) : Int)), (11, .int ((A0 + 1 + j : Nat) : Int))]) (fun (q : Nat × Nat) => match q with | (i, j) => [(1000, .row 2 ((L 0).map (elD v p)))]) (fun (q : Nat × Nat) => match q with | (i, j) => j - i) (0, B.length) ?_ ?_ ?_
 ·exact ⟨Nat.zero_le _, Nat.le_refl _, fun z h => by omega, fun z hz => by rw [List.getElem?_eq_none (Nat.le_refl _)] at hz; cases hz⟩
 ·exact eL [] _ _ (by refine ⟨?_, ?_⟩ <;> (repeat' first | exact List.forall_mem_nil _ | refine List.forall_mem_cons.2 ⟨(by first | rfl | (simp (disch := omega) only [go_sem, simprocAttr, inL, Nat.add_zero]; first | done | omega | (congr 1; done))), ?_⟩); done)
 ·rintro ⟨i, j⟩ ⟨hij, hj, hlo, hhi⟩
  dsimp only at hij hj hlo hhi ⊢
  rcases Nat.lt_or_ge i j with hlt | hge
  ·obtain ⟨h, hh⟩ : ∃ h, h = (i + j) / 2 := ⟨_, rfl⟩
   obtain ⟨z, hz⟩ := get_some (l := B) (k := h) (by omega)
   have hzm := List.mem_of_getElem? hz
   have c1 := hcmp z x
   have g1 := hp0 h z hz
   have w1 : IntKind.u64.wrap (((A0 + 1 + i : Nat) : Int) + ((A0 + 1 + j : Nat) : Int)) = ((A0 + 1 + i : Nat) : Int) + ((A0 + 1 + j : Nat) : Int) := wrapU (by omega) (by omega)
   have w2 : (((A0 + 1 + i : Nat) : Int) + ((A0 + 1 + j : Nat) : Int)).fdiv (2 ^ min 1 64) = ((A0 + 1 + h : Nat) : Int) := by rw [shr1 (by omega)]; omega
   by_cases cc : c z x < 0
   ·repeat' first | refine pw_seq ?_ | refine pw_skip ?_ | refine pw_ret ?_ | refine pw_exit ?_ | refine pw_block ?_ | refine pw_region (fun _ => false) hmix ?_ | (refine rc (c1) rfl ?_ ?_; (· first | rfl | (simp (disch := omega) only [go_sem, simprocAttr, w1, w2, g1, g0, l0, cc]; done))) | (refine wpG_split rfl rfl (fun hc => ?_) (fun hc => ?_) <;> try simp only [hcL, reduceCtorEq] at hc) | (refine pw_cond _ rfl rfl (fun hc => ?_) (fun hc => ?_) <;> (try simp only [hcL, reduceCtorEq] at hc) <;> try (exfalso; omega)) | simp (maxSteps := 1000000) (disch := omega) only [go_sem, simprocAttr, w1, w2, g1, g0, l0, cc] | apply And.intro | omega | decide +kernel
    refine ⟨(h + 1, j), ?_, eL [] _ _ (by refine ⟨?_, ?_⟩ <;> (repeat' first | exact List.forall_mem_nil _ | refine List.forall_mem_cons.2 ⟨(by first | rfl | (simp (disch := omega) only [go_sem, simprocAttr, inL, ← Int.natCast_add, Nat.add_assoc]; first | done | omega | (congr 1; done))), ?_⟩); done), ?_⟩
    ·exact ⟨by omega, by omega, fun y _ hy => by
      dsimp only at hy
      rw [Nat.add_sub_cancel, hz, Option.some.injEq] at hy
      rw [← hy]; exact (hb z hzm).1 cc, hhi⟩
    ·dsimp only; omega
   ·have hxz : R x z := by
     rcases hR.total x z (hne z hzm) with h1 | h1
     ·exact h1
     ·exact absurd ((hb z hzm).2 h1) cc
    repeat' first | refine pw_seq ?_ | refine pw_skip ?_ | refine pw_ret ?_ | refine pw_exit ?_ | refine pw_block ?_ | refine pw_region (fun _ => false) hmix ?_ | (refine rc (c1) rfl ?_ ?_; (· first | rfl | (simp (disch := omega) only [go_sem, simprocAttr, w1, w2, g1, g0, l0, cc]; done))) | (refine wpG_split rfl rfl (fun hc => ?_) (fun hc => ?_) <;> try simp only [hcL, reduceCtorEq] at hc) | (refine pw_cond _ rfl rfl (fun hc => ?_) (fun hc => ?_) <;> (try simp only [hcL, reduceCtorEq] at hc) <;> try (exfalso; omega)) | simp (maxSteps := 1000000) (disch := omega) only [go_sem, simprocAttr, w1, w2, g1, g0, l0, cc] | apply And.intro | omega | decide +kernel
    refine ⟨(i, h), ?_, eL [] _ _ (by refine ⟨?_, ?_⟩ <;> (repeat' first | exact List.forall_mem_nil _ | refine List.forall_mem_cons.2 ⟨(by first | rfl | (simp (disch := omega) only [go_sem, simprocAttr, inL]; first | done | omega | (congr 1; done))), ?_⟩); done), ?_⟩
    ·exact ⟨by omega, by omega, hlo, fun y hy => by
      dsimp only at hy
      rw [hz, Option.some.injEq] at hy
      rw [← hy]; exact hxz⟩
    ·dsimp only; omega
  ·have : i = j := by omega
   subst this
   have hfin := hend i hj hlo hhi
   repeat' first | refine pw_seq ?_ | refine pw_skip ?_ | refine pw_ret ?_ | refine pw_exit ?_ | refine pw_block ?_ | refine pw_region (fun _ => false) hmix ?_ | (refine wpG_split rfl rfl (fun hc => ?_) (fun hc => ?_) <;> try simp only [hcL, reduceCtorEq] at hc) | (refine pw_cond _ rfl rfl (fun hc => ?_) (fun hc => ?_) <;> (try simp only [hcL, reduceCtorEq] at hc) <;> try (exfalso; omega)) | simp (maxSteps := 1000000) (disch := omega) only [go_sem, simprocAttr] | apply And.intro | omega | decide +kernel
   refine pw_loopI (κ := Nat) (fun (k : Nat) => k ≤ i) (fun (k : Nat) => [(0, .ref 1000 2 0 N N), (10, .int ((A0 + 1 + i : Nat) : Int)), (13, .int ((A0 + k : Nat) : Int))]) (fun (k : Nat) => [(1000, .row 2 ((L k).map (elD v p)))]) (fun (k : Nat) => i - k) 0 ?_ ?_ ?_
   ·exact Nat.zero_le _
   ·exact eL [] _ _ (by refine ⟨?_, ?_⟩ <;> (repeat' first | exact List.forall_mem_nil _ | refine List.forall_mem_cons.2 ⟨(by first | rfl | (simp (disch := omega) only [go_sem, simprocAttr, inL, Nat.add_zero]; first | done | omega | (congr 1; done))), ?_⟩); done)
   ·intro k hk
    have e1 : ((A0 + 1 + i : Nat) : Int) - 1 = ((A0 + i : Nat) : Int) := by omega
    rcases Nat.lt_or_ge k i with hlk | hgk
    ·obtain ⟨z, hz⟩ := get_some (l := B) (k := k) (by omega)
     have q1 := hpa (k) (by omega)
     have q2 := hpn k z hz
     have q3 := hpu k z hz
     have q4 := hpl (k) (by omega)
     have e2 : ((A0 + k : Nat) : Int) + 1 = ((A0 + k + 1 : Nat) : Int) := by omega
     have q5 : ((L k).set (A0 + k) z)[A0 + k + 1]? = some z := by rw [List.getElem?_set, if_neg (by omega), q2]
     have q6 : (((L k).map (elD v p)).set (A0 + k) (elD v p z))[A0 + k + 1]? = some (elD v p z) := by rw [← List.map_set, List.getElem?_map, q5]; rfl
     have q7 : (((L k).map (elD v p)).set (A0 + k) (elD v p z)).set (A0 + k + 1) (elD v p x) = (L (k + 1)).map (elD v p) := by rw [← q3, List.map_set, List.map_set]
     repeat' first | refine pw_seq ?_ | refine pw_skip ?_ | refine pw_ret ?_ | refine pw_exit ?_ | refine pw_block ?_ | refine pw_region (fun _ => false) hmix ?_ | (refine wpG_split rfl rfl (fun hc => ?_) (fun hc => ?_) <;> try simp only [hcL, reduceCtorEq] at hc) | (refine pw_cond _ rfl rfl (fun hc => ?_) (fun hc => ?_) <;> (try simp only [hcL, reduceCtorEq] at hc) <;> try (exfalso; omega)) | simp (maxSteps := 1000000) (disch := omega) only [go_sem, simprocAttr, e1, e2, q1, q2, q4, List.length_set, q6, q7] | apply And.intro | omega | decide +kernel
     refine ⟨k + 1, ?_, eL [] _ _ (by refine ⟨?_, ?_⟩ <;> (repeat' first | exact List.forall_mem_nil _ | refine List.forall_mem_cons.2 ⟨(by first | rfl | (simp (disch := omega) only [go_sem, simprocAttr, inL, q7, Nat.add_assoc]; first | done | omega | (congr 1; done))), ?_⟩); done), ?_⟩
     ·omega
     ·omega
    ·have : k = i := by omega
     subst this
     repeat' first | refine pw_seq ?_ | refine pw_skip ?_ | refine pw_ret ?_ | refine pw_exit ?_ | refine pw_block ?_ | refine pw_region (fun _ => false) hmix ?_ | (refine wpG_split rfl rfl (fun hc => ?_) (fun hc => ?_) <;> try simp only [hcL, reduceCtorEq] at hc) | (refine pw_cond _ rfl rfl (fun hc => ?_) (fun hc => ?_) <;> (try simp only [hcL, reduceCtorEq] at hc) <;> try (exfalso; omega)) | simp (maxSteps := 1000000) (disch := omega) only [go_sem, simprocAttr, e1] | apply And.intro | omega | decide +kernel
     refine ⟨_, entL_iff.1 (eL [] [] [(1000, .row 2 (LT.map (elD v p)))] (by refine ⟨?_, ?_⟩ <;> (repeat' first | exact List.forall_mem_nil _ | refine List.forall_mem_cons.2 ⟨(by first | rfl | (simp (disch := omega) only [go_sem, simprocAttr, inL, hfin]; first | done | omega | (congr 1; done))), ?_⟩); done)), ?_⟩
     exact ⟨⟨[], rfl, trivial⟩, fmc ⟨rfl, fmn⟩⟩
set_option maxHeartbeats 4000000 in
theorem merge_right (v : Nat → Int) (p : Nat → List D) (g : Nat) (c : Nat → Nat → Int) (R : Nat → Nat → Prop) (hR : Ord R) (hcmp : ∀ j k, CallsTo Try.prog g [elD v p j, elD v p k] (.int (c j k)))
  (P A Q T : List Nat) (y : Nat) (hA2 : 2 ≤ A.length) (hAs : A.Pairwise R) (hb : ∀ z, z ∈ A → Back c R z y) (hne : ∀ z, z ∈ A → z ≠ y) (hT : T.Perm (A ++ [y])) (hTs : T.Pairwise R) (N : Nat) (hN : P.length + (A.length + 1) + Q.length = N) (hN1 : N ≤ 1000000) (a m b : Int)
  (ha : a = P.length) (hm : m = (P.length + A.length : Nat)) (hbb : b = (P.length + A.length + 1 : Nat)) :
  CallsM Try.prog 81 [.ref 1000 2 0 N N, .int a, .int m, .int b, .d (.fn g [])] [(1000, .row 2 ((P ++ A ++ [y] ++ Q).map (elD v p)))] (.tup []) [(1000, .row 2 ((P ++ T ++ Q).map (elD v p)))] := by
 subst ha hm hbb
 have hrow0 : P ++ A ++ [y] ++ Q = putN P A Q y A.length := by simp [putN]
 rw [hrow0]
 have hpl : ∀ k, k ≤ A.length → (putN P A Q y k).length = N := fun k hk => by rw [putN_len hk]; omega
 have hpa : ∀ k, k ≤ A.length → (putN P A Q y k)[P.length + k]? = some y := fun k hk => putN_at hk
 have hpn : ∀ k z, A[k]? = some z → (putN P A Q y (k + 1))[P.length + k]? = some z := fun k z => putN_prev
 have hpu : ∀ k z, A[k]? = some z → ((putN P A Q y (k + 1)).set (P.length + k + 1) z).set (P.length + k) y = putN P A Q y k := fun k z => putN_down
 have hp0 : ∀ k z, A[k]? = some z → (putN P A Q y A.length)[P.length + k]? = some z := fun k z hz => by
  have e : putN P A Q y A.length = P ++ (A ++ (y :: Q)) := by simp [putN]
  rw [e, List.getElem?_append_right (by omega), Nat.add_sub_cancel_left, List.getElem?_append_left (List.getElem?_eq_some_iff.1 hz).1, hz]
 have hend : ∀ i, i ≤ A.length → (∀ z, 0 < i → A[i - 1]? = some z → R z y) → (∀ z, A[i]? = some z → R y z) → P ++ T ++ Q = putN P A Q y i := fun i hi h1 h2 => by
  have h3 := put_sorted hR hi hAs h1 h2
  have h4 : (A.take i ++ y :: A.drop i).Perm (A ++ [y]) := by
   refine List.perm_middle.trans ?_
   rw [List.take_append_drop]; exact List.perm_append_comm (l₁ := [y]) (l₂ := A)
  have : T = A.take i ++ y :: A.drop i := uniq hR (hT.trans h4.symm) hTs h3
  rw [this, putN]; simp
 generalize hA : P.length = A0 at *
 generalize putN P A Q y = L at *
 generalize P ++ T ++ Q = LT at *
 have d1 : ((A0 + A.length : Nat) : Int) - (A0 : Int) = A.length := by omega
 have d2 : ((A0 + A.length + 1 : Nat) : Int) - ((A0 + A.length : Nat) : Int) = 1 := by omega
 have d3 : ¬ ((A.length : Int) = 1) := by omega
 refine callsM_of Try.func81 rfl (by decide +kernel) (Nat.le_of_ble_eq_true rfl) rfl (nodup_of rfl) rfl rfl rfl ?_
 intro B0 X w0
 refine pw_post ?_
 have g0 := hpa (A.length) (Nat.le_refl _)
 have l0 := hpl (A.length) (Nat.le_refl _)
 repeat' first | refine pw_seq ?_ | refine pw_skip ?_ | refine pw_ret ?_ | refine pw_exit ?_ | refine pw_block ?_ | refine pw_region (fun _ => false) hmix ?_ | (refine wpG_split rfl rfl (fun hc => ?_) (fun hc => ?_) <;> try simp only [hcL, reduceCtorEq] at hc) | (refine pw_cond _ rfl rfl (fun hc => ?_) (fun hc => ?_) <;> (try simp only [hcL, reduceCtorEq] at hc) <;> try (exfalso; omega)) | simp (maxSteps := 1000000) (disch := omega) only [go_sem, simprocAttr, d1, d2, d3] | apply And.intro | omega | decide +kernel
 refine pw_loopI (κ := Nat × Nat) (fun (q : Nat × Nat) => match q with | (i, j) => i ≤ j ∧ j ≤ A.length ∧ (∀ z, 0 < i → A[i - 1]? = some z → R z y) ∧ (∀ z, A[j]? = some z → R y z)) (fun (q : Nat × Nat) => match q with | (i, j) => [(0, .ref 1000 2 0 N N), (2, .int ((A0 + A.length : Nat) : Int)), (4, .d (.fn g [])), (14, .int ((A0 + i : Nat) : Int)), (15, .int ((A0 + j : Nat) : Int))]) (fun (q : Nat × Nat) => match q with | (i, j) => [(1000, .row 2 ((L A.length).map (elD v p)))]) (fun (q : Nat × Nat) => match q with | (i, j) => j - i) (0, A.length) ?_ ?_ ?_
 ·exact ⟨Nat.zero_le _, Nat.le_refl _, fun z h => by omega, fun z hz => by rw [List.getElem?_eq_none (Nat.le_refl _)] at hz; cases hz⟩
 ·exact eL [] _ _ (by refine ⟨?_, ?_⟩ <;> (repeat' first | exact List.forall_mem_nil _ | refine List.forall_mem_cons.2 ⟨(by first | rfl | (simp (disch := omega) only [go_sem, simprocAttr, inL, Nat.add_zero]; first | done | omega | (congr 1; done))), ?_⟩); done)
 ·rintro ⟨i, j⟩ ⟨hij, hj, hlo, hhi⟩
  dsimp only at hij hj hlo hhi ⊢
  rcases Nat.lt_or_ge i j with hlt | hge
  ·obtain ⟨h, hh⟩ : ∃ h, h = (i + j) / 2 := ⟨_, rfl⟩
   obtain ⟨z, hz⟩ := get_some (l := A) (k := h) (by omega)
   have hzm := List.mem_of_getElem? hz
   have c1 := hcmp y z
   have g1 := hp0 h z hz
   have w1 : IntKind.u64.wrap (((A0 + i : Nat) : Int) + ((A0 + j : Nat) : Int)) = ((A0 + i : Nat) : Int) + ((A0 + j : Nat) : Int) := wrapU (by omega) (by omega)
   have w2 : (((A0 + i : Nat) : Int) + ((A0 + j : Nat) : Int)).fdiv (2 ^ min 1 64) = ((A0 + h : Nat) : Int) := by rw [shr1 (by omega)]; omega
   by_cases cc : c y z < 0
   ·repeat' first | refine pw_seq ?_ | refine pw_skip ?_ | refine pw_ret ?_ | refine pw_exit ?_ | refine pw_block ?_ | refine pw_region (fun _ => false) hmix ?_ | (refine rc (c1) rfl ?_ ?_; (· first | rfl | (simp (disch := omega) only [go_sem, simprocAttr, w1, w2, g1, g0, l0, cc]; done))) | (refine wpG_split rfl rfl (fun hc => ?_) (fun hc => ?_) <;> try simp only [hcL, reduceCtorEq] at hc) | (refine pw_cond _ rfl rfl (fun hc => ?_) (fun hc => ?_) <;> (try simp only [hcL, reduceCtorEq] at hc) <;> try (exfalso; omega)) | simp (maxSteps := 1000000) (disch := omega) only [go_sem, simprocAttr, w1, w2, g1, g0, l0, cc] | apply And.intro | omega | decide +kernel
    refine ⟨(i, h), ?_, eL [] _ _ (by refine ⟨?_, ?_⟩ <;> (repeat' first | exact List.forall_mem_nil _ | refine List.forall_mem_cons.2 ⟨(by first | rfl | (simp (disch := omega) only [go_sem, simprocAttr, inL]; first | done | omega | (congr 1; done))), ?_⟩); done), ?_⟩
    ·exact ⟨by omega, by omega, hlo, fun x hx => by
      dsimp only at hx
      rw [hz, Option.some.injEq] at hx
      rw [← hx]; exact (hb z hzm).1 cc⟩
    ·dsimp only; omega
   ·have hxz : R z y := by
     rcases hR.total z y (hne z hzm) with h1 | h1
     ·exact h1
     ·exact absurd ((hb z hzm).2 h1) cc
    repeat' first | refine pw_seq ?_ | refine pw_skip ?_ | refine pw_ret ?_ | refine pw_exit ?_ | refine pw_block ?_ | refine pw_region (fun _ => false) hmix ?_ | (refine rc (c1) rfl ?_ ?_; (· first | rfl | (simp (disch := omega) only [go_sem, simprocAttr, w1, w2, g1, g0, l0, cc]; done))) | (refine wpG_split rfl rfl (fun hc => ?_) (fun hc => ?_) <;> try simp only [hcL, reduceCtorEq] at hc) | (refine pw_cond _ rfl rfl (fun hc => ?_) (fun hc => ?_) <;> (try simp only [hcL, reduceCtorEq] at hc) <;> try (exfalso; omega)) | simp (maxSteps := 1000000) (disch := omega) only [go_sem, simprocAttr, w1, w2, g1, g0, l0, cc] | apply And.intro | omega | decide +kernel
    refine ⟨(h + 1, j), ?_, eL [] _ _ (by refine ⟨?_, ?_⟩ <;> (repeat' first | exact List.forall_mem_nil _ | refine List.forall_mem_cons.2 ⟨(by first | rfl | (simp (disch := omega) only [go_sem, simprocAttr, inL, ← Int.natCast_add, Nat.add_assoc]; first | done | omega | (congr 1; done))), ?_⟩); done), ?_⟩
    ·exact ⟨by omega, by omega, fun x _ hx => by
      dsimp only at hx
      rw [Nat.add_sub_cancel, hz, Option.some.injEq] at hx
      rw [← hx]; exact hxz, hhi⟩
    ·dsimp only; omega
  ·have : i = j := by omega
   subst this
   have hfin := hend i hj hlo hhi
   repeat' first | refine pw_seq ?_ | refine pw_skip ?_ | refine pw_ret ?_ | refine pw_exit ?_ | refine pw_block ?_ | refine pw_region (fun _ => false) hmix ?_ | (refine wpG_split rfl rfl (fun hc => ?_) (fun hc => ?_) <;> try simp only [hcL, reduceCtorEq] at hc) | (refine pw_cond _ rfl rfl (fun hc => ?_) (fun hc => ?_) <;> (try simp only [hcL, reduceCtorEq] at hc) <;> try (exfalso; omega)) | simp (maxSteps := 1000000) (disch := omega) only [go_sem, simprocAttr] | apply And.intro | omega | decide +kernel
   refine pw_loopI (κ := Nat) (fun (k : Nat) => i ≤ k ∧ k ≤ A.length) (fun (k : Nat) => [(0, .ref 1000 2 0 N N), (14, .int ((A0 + i : Nat) : Int)), (17, .int ((A0 + k : Nat) : Int))]) (fun (k : Nat) => [(1000, .row 2 ((L k).map (elD v p)))]) (fun (k : Nat) => k) A.length ?_ ?_ ?_
   ·exact ⟨hj, Nat.le_refl _⟩
   ·exact eL [] _ _ (by refine ⟨?_, ?_⟩ <;> (repeat' first | exact List.forall_mem_nil _ | refine List.forall_mem_cons.2 ⟨(by first | rfl | (simp (disch := omega) only [go_sem, simprocAttr, inL]; first | done | omega | (congr 1; done))), ?_⟩); done)
   ·rintro k ⟨hk1, hk2⟩
    rcases Nat.lt_or_ge i k with hlk | hgk
    ·obtain ⟨k, rfl⟩ : ∃ m, k = m + 1 := ⟨k - 1, by omega⟩
     obtain ⟨z, hz⟩ := get_some (l := A) (k := k) (by omega)
     have q1 := hpa (k + 1) (by omega)
     have q2 := hpn k z hz
     have q3 := hpu k z hz
     have q4 := hpl (k + 1) (by omega)
     have e1 : ((A0 + (k + 1) : Nat) : Int) - 1 = ((A0 + k : Nat) : Int) := by omega
     rw [← Nat.add_assoc] at q1 e1 ⊢
     have q5 : ((L (k + 1)).set (A0 + k + 1) z)[A0 + k]? = some z := by rw [List.getElem?_set, if_neg (by omega), q2]
     have q6 : (((L (k + 1)).map (elD v p)).set (A0 + k + 1) (elD v p z))[A0 + k]? = some (elD v p z) := by rw [← List.map_set, List.getElem?_map, q5]; rfl
     have q7 : (((L (k + 1)).map (elD v p)).set (A0 + k + 1) (elD v p z)).set (A0 + k) (elD v p y) = (L k).map (elD v p) := by rw [← q3, List.map_set, List.map_set]
     repeat' first | refine pw_seq ?_ | refine pw_skip ?_ | refine pw_ret ?_ | refine pw_exit ?_ | refine pw_block ?_ | refine pw_region (fun _ => false) hmix ?_ | (refine wpG_split rfl rfl (fun hc => ?_) (fun hc => ?_) <;> try simp only [hcL, reduceCtorEq] at hc) | (refine pw_cond _ rfl rfl (fun hc => ?_) (fun hc => ?_) <;> (try simp only [hcL, reduceCtorEq] at hc) <;> try (exfalso; omega)) | simp (maxSteps := 1000000) (disch := omega) only [go_sem, simprocAttr, e1, q1, q2, q4, List.length_set, q6, q7] | apply And.intro | omega | decide +kernel
     refine ⟨k, ?_, eL [] _ _ (by refine ⟨?_, ?_⟩ <;> (repeat' first | exact List.forall_mem_nil _ | refine List.forall_mem_cons.2 ⟨(by first | rfl | (simp (disch := omega) only [go_sem, simprocAttr, inL, q7]; first | done | omega | (congr 1; done))), ?_⟩); done), ?_⟩
     ·omega
     ·omega
    ·have : k = i := by omega
     subst this
     repeat' first | refine pw_seq ?_ | refine pw_skip ?_ | refine pw_ret ?_ | refine pw_exit ?_ | refine pw_block ?_ | refine pw_region (fun _ => false) hmix ?_ | (refine wpG_split rfl rfl (fun hc => ?_) (fun hc => ?_) <;> try simp only [hcL, reduceCtorEq] at hc) | (refine pw_cond _ rfl rfl (fun hc => ?_) (fun hc => ?_) <;> (try simp only [hcL, reduceCtorEq] at hc) <;> try (exfalso; omega)) | simp (maxSteps := 1000000) (disch := omega) only [go_sem, simprocAttr] | apply And.intro | omega | decide +kernel
     refine ⟨_, entL_iff.1 (eL [] [] [(1000, .row 2 (LT.map (elD v p)))] (by refine ⟨?_, ?_⟩ <;> (repeat' first | exact List.forall_mem_nil _ | refine List.forall_mem_cons.2 ⟨(by first | rfl | (simp (disch := omega) only [go_sem, simprocAttr, inL, hfin]; first | done | omega | (congr 1; done))), ?_⟩); done)), ?_⟩
     exact ⟨⟨[], rfl, trivial⟩, fmc ⟨rfl, fmn⟩⟩
end Go.Proofs.Ytldbcbclhpcofaa
namespace Go.Proofs.Ytldbcbclhpcofaa
open Go Go.PS Go.Proofs
open Go.Stb
set_option maxRecDepth 100000
attribute [local irreducible] wpRun wpG CallsTo CallsM

def MergeOk (v : Nat → Int) (p : Nat → List D) (g : Nat) (c : Nat → Nat → Int) (R : Nat → Nat → Prop) (N : Nat) (P A B Q : List Nat) : Prop :=
 ∀ T : List Nat, 0 < A.length → 0 < B.length → A.Pairwise R → B.Pairwise R → (∀ s, s ∈ A → ∀ z, z ∈ B → Back c R s z) → (A ++ B).Nodup → T.Perm (A ++ B) → T.Pairwise R → P.length + A.length + B.length + Q.length = N →
  ∀ a m b : Int, a = P.length → m = (P.length + A.length : Nat) → b = (P.length + A.length + B.length : Nat) →
  CallsM Try.prog 81 [.ref 1000 2 0 N N, .int a, .int m, .int b, .d (.fn g [])] [(1000, .row 2 ((P ++ A ++ B ++ Q).map (elD v p)))] (.tup []) [(1000, .row 2 ((P ++ T ++ Q).map (elD v p)))]
set_option maxHeartbeats 8000000 in
theorem merge_main (v : Nat → Int) (p : Nat → List D) (g : Nat) (c : Nat → Nat → Int) (R : Nat → Nat → Prop) (hR : Ord R) (hcmp : ∀ j k, CallsTo Try.prog g [elD v p j, elD v p k] (.int (c j k))) (N : Nat) (hN1 : N ≤ 1000000)
  (P A B Q T : List Nat) (hA2 : 2 ≤ A.length) (hB2 : 2 ≤ B.length) (IH : ∀ P' A' B' Q', A'.length + B'.length < A.length + B.length → MergeOk v p g c R N P' A' B' Q')
  (hAs : A.Pairwise R) (hBs : B.Pairwise R) (hb : ∀ s, s ∈ A → ∀ z, z ∈ B → Back c R s z) (hnd : (A ++ B).Nodup) (hT : T.Perm (A ++ B)) (hTs : T.Pairwise R) (hN : P.length + A.length + B.length + Q.length = N) :
  CallsM Try.prog 81 [.ref 1000 2 0 N N, .int P.length, .int (P.length + A.length : Nat), .int (P.length + A.length + B.length : Nat), .d (.fn g [])] [(1000, .row 2 ((P ++ A ++ B ++ Q).map (elD v p)))] (.tup []) [(1000, .row 2 ((P ++ T ++ Q).map (elD v p)))] := by
 have hne : ∀ s, s ∈ A → ∀ z, z ∈ B → s ≠ z := (List.nodup_append.1 hnd).2.2
 have hndA := (List.nodup_append.1 hnd).1
 have hndB := (List.nodup_append.1 hnd).2.1
 generalize hA0 : P.length = A0 at *
 obtain ⟨m, hm⟩ : ∃ m, m = A0 + A.length := ⟨_, rfl⟩
 obtain ⟨b, hbb⟩ : ∃ b, b = A0 + A.length + B.length := ⟨_, rfl⟩
 rw [← hbb, ← hm]
 obtain ⟨mid, hmid⟩ : ∃ mid, mid = (A0 + b) / 2 := ⟨_, rfl⟩
 obtain ⟨n0, hn0⟩ : ∃ n0, n0 = mid + m := ⟨_, rfl⟩
 obtain ⟨s0, r0, hsr⟩ : ∃ s0 r0 : Nat, (mid < m ∧ s0 = n0 - b ∧ r0 = mid) ∨ (¬ mid < m ∧ s0 = A0 ∧ r0 = m) := by
  by_cases h : mid < m
  ·exact ⟨n0 - b, mid, .inl ⟨h, rfl, rfl⟩⟩
  ·exact ⟨A0, m, .inr ⟨h, rfl, rfl⟩⟩
 -- the stretches at a split, and what is done with them
 have hgA : ∀ k x, A[k]? = some x → (P ++ A ++ B ++ Q)[A0 + k]? = some x := fun k x hx => by
  have h1 := (List.getElem?_eq_some_iff.1 hx).1
  rw [List.append_assoc, List.append_assoc, List.getElem?_append_right (by omega), hA0, Nat.add_sub_cancel_left, List.getElem?_append_left h1, hx]
 have hgB : ∀ k x, B[k]? = some x → (P ++ A ++ B ++ Q)[m + k]? = some x := fun k x hx => by
  have h1 := (List.getElem?_eq_some_iff.1 hx).1
  rw [List.append_assoc, List.getElem?_append_right (by rw [List.length_append]; omega), List.getElem?_append_left (by rw [List.length_append]; omega), show m + k - (P ++ A).length = k by rw [List.length_append]; omega, hx]
 have hl0 : (P ++ A ++ B ++ Q).length = N := by simp only [List.length_append]; omega
 have hfin : ∀ k q : Nat, A0 + k + q = mid → k ≤ A.length → q ≤ B.length → (∀ x y, 0 < k → A[k - 1]? = some x → B[q]? = some y → R x y) → (∀ x y, 0 < q → B[q - 1]? = some x → A[k]? = some y → R x y) →
   ∃ L1 L2 : List Nat, 
    ((k < A.length ∧ 0 < q) → CallsM Try.prog 87 [.ref 1000 2 0 N N, .int (A0 + k : Nat), .int m, .int (m + q : Nat), .d (.fn g [])] [(1000, .row 2 ((P ++ A ++ B ++ Q).map (elD v p)))] (.tup []) [(1000, .row 2 (L1.map (elD v p)))]) ∧
    (¬ (k < A.length ∧ 0 < q) → P ++ A ++ B ++ Q = L1) ∧
    ((0 < k ∧ 0 < q) → CallsM Try.prog 81 [.ref 1000 2 0 N N, .int A0, .int (A0 + k : Nat), .int mid, .d (.fn g [])] [(1000, .row 2 (L1.map (elD v p)))] (.tup []) [(1000, .row 2 (L2.map (elD v p)))]) ∧
    (¬ (0 < k ∧ 0 < q) → L1 = L2) ∧
    ((k < A.length ∧ q < B.length) → CallsM Try.prog 81 [.ref 1000 2 0 N N, .int mid, .int (m + q : Nat), .int b, .d (.fn g [])] [(1000, .row 2 (L2.map (elD v p)))] (.tup []) [(1000, .row 2 ((P ++ T ++ Q).map (elD v p)))]) ∧
    (¬ (k < A.length ∧ q < B.length) → L2 = P ++ T ++ Q) := by
  intro k q hkq hk hq h1 h2
  obtain ⟨T1, T2, rfl, p1, p2, s1, s2⟩ := merge_split hR hk hq hAs hBs hTs hT hnd h1 h2
  have lt := List.length_take (i := k) (l := A)
  have ld := List.length_drop (i := k) (l := A)
  have mt := List.length_take (i := q) (l := B)
  have md := List.length_drop (i := q) (l := B)
  have ea := List.take_append_drop k A
  have eb := List.take_append_drop q B
  have e1 := p1.length_eq
  have e2 := p2.length_eq
  rw [List.length_append] at e1 e2
  have sa : (A.take k).Pairwise R ∧ (A.drop k).Pairwise R := by
   have := hAs
   rw [← ea] at this
   exact ⟨(List.pairwise_append.1 this).1, (List.pairwise_append.1 this).2.1⟩
  have sb : (B.take q).Pairwise R ∧ (B.drop q).Pairwise R := by
   have := hBs
   rw [← eb] at this
   exact ⟨(List.pairwise_append.1 this).1, (List.pairwise_append.1 this).2.1⟩
  have nd1 : (A.take k ++ B.take q).Nodup := List.nodup_append.2 ⟨hndA.sublist (List.take_sublist _ _), hndB.sublist (List.take_sublist _ _), fun s hs z hz => hne s (List.mem_of_mem_take hs) z (List.mem_of_mem_take hz)⟩
  have nd2 : (A.drop k ++ B.drop q).Nodup := List.nodup_append.2 ⟨hndA.sublist (List.drop_sublist _ _), hndB.sublist (List.drop_sublist _ _), fun s hs z hz => hne s (List.mem_of_mem_drop hs) z (List.mem_of_mem_drop hz)⟩
  refine ⟨P ++ A.take k ++ B.take q ++ A.drop k ++ B.drop q ++ Q, P ++ T1 ++ A.drop k ++ B.drop q ++ Q, ?_, ?_, ?_, ?_, ?_, ?_⟩
  ·rintro ⟨c1, c2⟩
   have h := rot_spec v p g (P ++ A.take k) (A.drop k) (B.take q) (B.drop q ++ Q) (by omega) (by omega) N (by simp only [List.length_append]; omega) hN1 ((A0 + k : Nat) : Int) m ((m + q : Nat) : Int)
    (by rw [List.length_append]; omega) (by rw [List.length_append]; omega) (by rw [List.length_append]; omega)
   have r1 : P ++ A.take k ++ A.drop k ++ B.take q ++ (B.drop q ++ Q) = P ++ A ++ B ++ Q := by
    rw [List.append_assoc P, ea, List.append_assoc (P ++ A), ← List.append_assoc (B.take q), eb, ← List.append_assoc]
   have r2 : P ++ A.take k ++ B.take q ++ A.drop k ++ (B.drop q ++ Q) = P ++ A.take k ++ B.take q ++ A.drop k ++ B.drop q ++ Q := by simp
   rw [r1, r2] at h; exact h
  ·intro c1
   by_cases c2 : k < A.length
   ·have : q = 0 := by
     by_cases c3 : 0 < q
     ·exact absurd ⟨c2, c3⟩ c1
     ·omega
    subst this
    refine Eq.trans (congrArg (fun Z => P ++ Z ++ B ++ Q) ea.symm) ?_
    simp
   ·have : k = A.length := by omega
    subst this
    refine Eq.trans (congrArg (fun Z => P ++ A ++ Z ++ Q) eb.symm) ?_
    simp
  ·rintro ⟨c1, c2⟩
   have h := IH P (A.take k) (B.take q) (A.drop k ++ B.drop q ++ Q) (by omega) T1 (by omega) (by omega) sa.1 sb.1 (fun s hs z hz => hb s (List.mem_of_mem_take hs) z (List.mem_of_mem_take hz)) nd1 p1 s1 (by simp only [List.length_append]; omega)
    A0 ((A0 + k : Nat) : Int) mid (by omega) (by omega) (by omega)
   have r1 : P ++ A.take k ++ B.take q ++ (A.drop k ++ B.drop q ++ Q) = P ++ A.take k ++ B.take q ++ A.drop k ++ B.drop q ++ Q := by simp
   have r2 : P ++ T1 ++ (A.drop k ++ B.drop q ++ Q) = P ++ T1 ++ A.drop k ++ B.drop q ++ Q := by simp
   rw [r1, r2] at h; exact h
  ·intro c1
   have : T1 = A.take k ++ B.take q := by
    refine uniq hR p1 s1 ?_
    rcases Nat.eq_zero_or_pos k with rfl | c2
    ·rw [List.take_zero, List.nil_append]; exact sb.1
    ·have : q = 0 := by
      by_cases c3 : 0 < q
      ·exact absurd ⟨c2, c3⟩ c1
      ·omega
     subst this
     rw [List.take_zero, List.append_nil]; exact sa.1
   rw [this]; simp
  ·rintro ⟨c1, c2⟩
   have h := IH (P ++ T1) (A.drop k) (B.drop q) Q (by omega) T2 (by omega) (by omega) sa.2 sb.2 (fun s hs z hz => hb s (List.mem_of_mem_drop hs) z (List.mem_of_mem_drop hz)) nd2 p2 s2 (by rw [List.length_append]; omega)
    mid ((m + q : Nat) : Int) b (by rw [List.length_append]; omega) (by rw [List.length_append]; omega) (by rw [List.length_append]; omega)
   have r2 : P ++ T1 ++ T2 ++ Q = P ++ (T1 ++ T2) ++ Q := by simp
   rw [r2] at h; exact h
  ·intro c1
   have : T2 = A.drop k ++ B.drop q := by
    refine uniq hR p2 s2 ?_
    by_cases c2 : k < A.length
    ·have : q = B.length := by
      by_cases c3 : q < B.length
      ·exact absurd ⟨c2, c3⟩ c1
      ·omega
     subst this
     rw [List.drop_length, List.append_nil]; exact sa.2
    ·have : k = A.length := by omega
     subst this
     rw [List.drop_length, List.nil_append]; exact sb.2
   rw [this]; simp
 clear IH hT hTs
 generalize P ++ A ++ B ++ Q = L0 at *
 generalize P ++ T ++ Q = LT at *
 have d1 : ¬ ((m : Int) - (A0 : Int) = 1) := by omega
 have d2 : ¬ ((b : Int) - (m : Int) = 1) := by omega
 have w1 : IntKind.u64.wrap ((A0 : Int) + (b : Int)) = (A0 : Int) + (b : Int) := wrapU (by omega) (by omega)
 have w2 : ((A0 : Int) + (b : Int)).fdiv (2 ^ min 1 64) = (mid : Int) := by rw [shr1 (by omega)]; omega
 have d3 : (mid : Int) + (m : Int) = (n0 : Int) := by omega
 have d4 : (n0 : Int) - 1 = ((n0 - 1 : Nat) : Int) := by omega
 obtain ⟨pp, hpp⟩ : ∃ pp, pp = n0 - 1 := ⟨_, rfl⟩
 rw [← hpp] at d4
 refine callsM_of Try.func81 rfl (by decide +kernel) (Nat.le_of_ble_eq_true rfl) rfl (nodup_of rfl) rfl rfl rfl ?_
 intro B0 X w0
 refine pw_post ?_
 repeat' first | refine pw_seq ?_ | refine pw_skip ?_ | refine pw_ret ?_ | refine pw_exit ?_ | refine pw_block ?_ | refine pw_region (fun _ => false) hmix ?_ | (refine wpG_split rfl rfl (fun hc => ?_) (fun hc => ?_) <;> try simp only [hcL, reduceCtorEq] at hc) | (refine pw_cond _ rfl rfl (fun hc => ?_) (fun hc => ?_) <;> (try simp only [hcL, reduceCtorEq] at hc) <;> try (exfalso; omega)) | simp (maxSteps := 1000000) (disch := omega) only [go_sem, simprocAttr, d1, d2, d3, d4, w1, w2] | apply And.intro | omega | decide +kernel
 all_goals
  refine pw_loopI (κ := Nat × Nat) (fun (q : Nat × Nat) => match q with | (s, r) => s0 ≤ s ∧ s ≤ r ∧ r ≤ r0 ∧ (s = s0 ∨ ∃ x y, A[s - 1 - A0]? = some x ∧ B[mid - s]? = some y ∧ R x y) ∧ (r = r0 ∨ ∃ x y, B[mid - r - 1]? = some x ∧ A[r - A0]? = some y ∧ R x y)) (fun (q : Nat × Nat) => match q with | (s, r) => [(0, .ref 1000 2 0 N N), (1, .int A0), (2, .int m), (3, .int b), (4, .d (.fn g [])), (18, .int mid), (19, .int n0), (20, .int s), (21, .int r), (22, .int pp)]) (fun (q : Nat × Nat) => match q with | (s, r) => [(1000, .row 2 (L0.map (elD v p)))]) (fun (q : Nat × Nat) => match q with | (s, r) => r - s) (s0, r0) ?_ ?_ ?_
  ·exact ⟨Nat.le_refl _, by omega, Nat.le_refl _, .inl rfl, .inl rfl⟩
  ·exact eL [] _ _ (by refine ⟨?_, ?_⟩ <;> (repeat' first | exact List.forall_mem_nil _ | refine List.forall_mem_cons.2 ⟨(by first | rfl | (simp (disch := omega) only [go_sem, simprocAttr, inL]; first | done | omega | (congr 1; done))), ?_⟩); done)
  ·rintro ⟨s, r⟩ ⟨h1, h2, h3, h4, h5⟩
   dsimp only at h1 h2 h3 h4 h5 ⊢
   rcases Nat.lt_or_ge s r with hlt | hge
   ·obtain ⟨cc, hcc⟩ : ∃ cc, cc = (s + r) / 2 := ⟨_, rfl⟩
    obtain ⟨dd, hdd⟩ : ∃ dd, dd = pp - cc := ⟨_, rfl⟩
    obtain ⟨x, hx⟩ := get_some (l := A) (k := cc - A0) (by omega)
    obtain ⟨y, hy⟩ := get_some (l := B) (k := mid - 1 - cc) (by omega)
    have g1 := hgA _ _ hx
    have g2 := hgB _ _ hy
    rw [show A0 + (cc - A0) = cc by omega] at g1
    rw [show m + (mid - 1 - cc) = dd by omega] at g2
    have c1 := hcmp y x
    have hbk := hb x (List.mem_of_getElem? hx) y (List.mem_of_getElem? hy)
    have hn := hne x (List.mem_of_getElem? hx) y (List.mem_of_getElem? hy)
    have v1 : IntKind.u64.wrap ((s : Int) + (r : Int)) = (s : Int) + (r : Int) := wrapU (by omega) (by omega)
    have v2 : ((s : Int) + (r : Int)).fdiv (2 ^ min 1 64) = (cc : Int) := by rw [shr1 (by omega)]; omega
    have v3 : (pp : Int) - (cc : Int) = (dd : Int) := by omega
    by_cases hc1 : c y x < 0
    ·repeat' first | refine pw_seq ?_ | refine pw_skip ?_ | refine pw_ret ?_ | refine pw_exit ?_ | refine pw_block ?_ | refine pw_region (fun _ => false) hmix ?_ | (refine rc (c1) rfl ?_ ?_; (· first | rfl | (simp (disch := omega) only [go_sem, simprocAttr, v1, v2, v3, g1, g2, hl0, hc1]; done))) | (refine wpG_split rfl rfl (fun hc => ?_) (fun hc => ?_) <;> try simp only [hcL, reduceCtorEq] at hc) | (refine pw_cond _ rfl rfl (fun hc => ?_) (fun hc => ?_) <;> (try simp only [hcL, reduceCtorEq] at hc) <;> try (exfalso; omega)) | simp (maxSteps := 1000000) (disch := omega) only [go_sem, simprocAttr, v1, v2, v3, g1, g2, hl0, hc1] | apply And.intro | omega | decide +kernel
     refine ⟨(s, cc), ?_, eL [] _ _ (by refine ⟨?_, ?_⟩ <;> (repeat' first | exact List.forall_mem_nil _ | refine List.forall_mem_cons.2 ⟨(by first | rfl | (simp (disch := omega) only [go_sem, simprocAttr, inL]; first | done | omega | (congr 1; done))), ?_⟩); done), ?_⟩
     ·dsimp only
      exact ⟨h1, by omega, by omega, h4, .inr ⟨y, x, by rw [show mid - cc - 1 = mid - 1 - cc by omega]; exact hy, hx, hbk.1 hc1⟩⟩
     ·dsimp only; omega
    ·have hxy : R x y := by
      rcases hR.total x y hn with h | h
      ·exact h
      ·exact absurd (hbk.2 h) hc1
     repeat' first | refine pw_seq ?_ | refine pw_skip ?_ | refine pw_ret ?_ | refine pw_exit ?_ | refine pw_block ?_ | refine pw_region (fun _ => false) hmix ?_ | (refine rc (c1) rfl ?_ ?_; (· first | rfl | (simp (disch := omega) only [go_sem, simprocAttr, v1, v2, v3, g1, g2, hl0, hc1]; done))) | (refine wpG_split rfl rfl (fun hc => ?_) (fun hc => ?_) <;> try simp only [hcL, reduceCtorEq] at hc) | (refine pw_cond _ rfl rfl (fun hc => ?_) (fun hc => ?_) <;> (try simp only [hcL, reduceCtorEq] at hc) <;> try (exfalso; omega)) | simp (maxSteps := 1000000) (disch := omega) only [go_sem, simprocAttr, v1, v2, v3, g1, g2, hl0, hc1] | apply And.intro | omega | decide +kernel
     refine ⟨(cc + 1, r), ?_, eL [] _ _ (by refine ⟨?_, ?_⟩ <;> (repeat' first | exact List.forall_mem_nil _ | refine List.forall_mem_cons.2 ⟨(by first | rfl | (simp (disch := omega) only [go_sem, simprocAttr, inL]; first | done | omega | (congr 1; done))), ?_⟩); done), ?_⟩
     ·dsimp only
      exact ⟨by omega, by omega, h3, .inr ⟨x, y, by rw [show cc + 1 - 1 - A0 = cc - A0 by omega]; exact hx, by rw [show mid - (cc + 1) = mid - 1 - cc by omega]; exact hy, hxy⟩, h5⟩
     ·dsimp only; omega
   ·have : s = r := by omega
    subst this
    obtain ⟨k, hk⟩ : ∃ k, k = s - A0 := ⟨_, rfl⟩
    obtain ⟨q, hq⟩ : ∃ q, q = mid - s := ⟨_, rfl⟩
    obtain ⟨L1, L2, f1, f2, f3, f4, f5, f6⟩ := hfin k q (by omega) (by omega) (by omega) (fun x y h0 hx hy => by
     rcases h4 with h4 | ⟨x', y', e1, e2, e3⟩
     ·rw [List.getElem?_eq_none (by omega)] at hy; cases hy
     ·rw [show s - 1 - A0 = k - 1 by omega, hx, Option.some.injEq] at e1
      rw [← hq, hy, Option.some.injEq] at e2
      rw [e1, e2]; exact e3) (fun x y h0 hx hy => by
     rcases h5 with h5 | ⟨x', y', e1, e2, e3⟩
     ·rw [List.getElem?_eq_none (by omega)] at hy; cases hy
     ·rw [show mid - s - 1 = q - 1 by omega, hx, Option.some.injEq] at e1
      rw [← hk, hy, Option.some.injEq] at e2
      rw [e1, e2]; exact e3)
    rw [show A0 + k = s by omega] at f1 f3
    obtain ⟨en, hen⟩ : ∃ en, en = m + q := ⟨_, rfl⟩
    rw [← hen] at f1 f5
    have v4 : (n0 : Int) - (s : Int) = (en : Int) := by omega
    clear hfin hgA hgB hb hne h4 h5
    by_cases c1 : k < A.length ∧ 0 < q <;> by_cases c2 : 0 < k ∧ 0 < q <;> by_cases c3 : k < A.length ∧ q < B.length
    all_goals
     try have f2 := f2 c1
     try have f4 := f4 c2
     try have f6 := f6 c3
     try subst f2
     try subst f4
     try subst f6
     repeat' first | refine pw_seq ?_ | refine pw_skip ?_ | refine pw_ret ?_ | refine pw_exit ?_ | refine pw_block ?_ | refine pw_region (fun _ => false) hmix ?_ | refine rcM [] (f1 c1) rfl ?_ | refine rcM [] (f3 c2) rfl ?_ | refine rcM [] (f5 c3) rfl ?_ | (refine wpG_split rfl rfl (fun hc => ?_) (fun hc => ?_) <;> try simp only [hcL, reduceCtorEq] at hc) | (refine pw_cond _ rfl rfl (fun hc => ?_) (fun hc => ?_) <;> (try simp only [hcL, reduceCtorEq] at hc) <;> try (exfalso; omega)) | simp (maxSteps := 1000000) (disch := omega) only [go_sem, simprocAttr, v4] | apply And.intro | omega | decide +kernel
     all_goals
      refine ⟨_, entL_iff.1 (eL [] [] [(1000, .row 2 (_))] (by refine ⟨?_, ?_⟩ <;> (repeat' first | exact List.forall_mem_nil _ | refine List.forall_mem_cons.2 ⟨(by first | rfl | (simp (disch := omega) only [go_sem, simprocAttr, inL]; first | done | omega | (congr 1; done))), ?_⟩); done)), ?_⟩
     all_goals exact ⟨⟨[], rfl, trivial⟩, fmc ⟨rfl, fmn⟩⟩
end Go.Proofs.Ytldbcbclhpcofaa
namespace Go.Proofs.Ytldbcbclhpcofaa
open Go Go.PS Go.Proofs
open Go.Stb
set_option maxRecDepth 100000
attribute [local irreducible] wpRun wpG CallsTo CallsM

theorem merge_all (v : Nat → Int) (p : Nat → List D) (g : Nat) (c : Nat → Nat → Int) (R : Nat → Nat → Prop) (hR : Ord R) (hcmp : ∀ j k, CallsTo Try.prog g [elD v p j, elD v p k] (.int (c j k))) (N : Nat) (hN1 : N ≤ 1000000) :
  ∀ (n : Nat) (P A B Q : List Nat), A.length + B.length < n → MergeOk v p g c R N P A B Q := by
 intro n
 induction n with
 | zero => intro P A B Q h; omega
 | succ n ih =>
  intro P A B Q hn T hA hB hAs hBs hb hnd hT hTs hN a m b ha hm hbb
  subst ha hm hbb
  have hne : ∀ s, s ∈ A → ∀ z, z ∈ B → s ≠ z := (List.nodup_append.1 hnd).2.2
  by_cases c1 : A.length = 1
  ·obtain ⟨x, rfl⟩ := List.length_eq_one_iff.1 c1
   exact merge_left v p g c R hR hcmp P B Q T x hBs (fun z hz => hb x (by simp) z hz) (fun z hz => hne x (by simp) z hz) hT hTs N (by rw [← hN, List.length_singleton]; omega) hN1 _ _ _ rfl rfl rfl
  ·by_cases c2 : B.length = 1
   ·obtain ⟨y, rfl⟩ := List.length_eq_one_iff.1 c2
    exact merge_right v p g c R hR hcmp P A Q T y (by omega) hAs (fun z hz => hb z hz y (by simp)) (fun z hz => hne z hz y (by simp)) hT hTs N (by rw [← hN, List.length_singleton]; omega) hN1 _ _ _ rfl rfl rfl
   ·exact merge_main v p g c R hR hcmp N hN1 P A B Q T (by omega) (by omega) (fun P' A' B' Q' h => ih P' A' B' Q' (by omega)) hAs hBs hb hnd hT hTs hN
def Blk (R : Nat → Nat → Prop) (s : Nat) : List Nat → List (List Nat) → Prop
 | L, [] => L = []
 | L, X :: Xs => X.Perm (L.take s) ∧ X.Pairwise R ∧ Blk R s (L.drop s) Xs
theorem Blk.nil_flat {R : Nat → Nat → Prop} {s : Nat} : ∀ {Xs : List (List Nat)}, Blk R s [] Xs → Xs.flatten = []
 | [], _ => rfl
 | X :: Xs, h => by
  obtain ⟨h1, _, h3⟩ := h
  rw [List.take_nil, List.perm_nil] at h1
  rw [List.drop_nil] at h3
  rw [List.flatten_cons, h1, Blk.nil_flat h3]; rfl
theorem Blk.nil_any {R : Nat → Nat → Prop} {s t : Nat} : ∀ {Xs : List (List Nat)}, Blk R s [] Xs → Blk R t [] Xs
 | [], h => h
 | X :: Xs, h => by
  obtain ⟨h1, h2, h3⟩ := h
  rw [List.take_nil] at h1
  rw [List.drop_nil] at h3
  exact ⟨by rw [List.take_nil]; exact h1, h2, by rw [List.drop_nil]; exact Blk.nil_any h3⟩
theorem Blk.perm {R : Nat → Nat → Prop} {s : Nat} : ∀ {L : List Nat} {Xs : List (List Nat)}, Blk R s L Xs → Xs.flatten.Perm L
 | L, [], h => by
  have : L = [] := h
  subst this; exact List.Perm.refl _
 | L, X :: Xs, h => by
  obtain ⟨h1, _, h3⟩ := h
  have := h1.append (Blk.perm h3)
  rw [List.take_append_drop] at this
  rw [List.flatten_cons]; exact this
theorem Blk.short {R : Nat → Nat → Prop} {s t : Nat} {L : List Nat} {Xs : List (List Nat)} (h : Blk R s L Xs) (hl : L.length ≤ s) (ht : L.length ≤ t) : Blk R t L Xs := by
 cases Xs with
 | nil => exact h
 | cons X Xs =>
  obtain ⟨h1, h2, h3⟩ := h
  rw [List.drop_of_length_le hl] at h3
  rw [List.take_of_length_le hl] at h1
  exact ⟨by rw [List.take_of_length_le ht]; exact h1, h2, by rw [List.drop_of_length_le ht]; exact h3.nil_any⟩
theorem Blk.one {R : Nat → Nat → Prop} {s : Nat} {L : List Nat} {Xs : List (List Nat)} (h : Blk R s L Xs) (hl : L.length ≤ s) : Xs.flatten.Pairwise R := by
 cases Xs with
 | nil => exact List.Pairwise.nil
 | cons X Xs =>
  obtain ⟨h1, h2, h3⟩ := h
  rw [List.drop_of_length_le hl] at h3
  rw [List.flatten_cons, h3.nil_flat, List.append_nil]; exact h2
theorem Blk.two {R : Nat → Nat → Prop} {s : Nat} {L : List Nat} {Xs : List (List Nat)} (h : Blk R s L Xs) (hl : s < L.length) (hs : 0 < s) :
  ∃ X Y Ys, Xs = X :: Y :: Ys ∧ X.Perm (L.take s) ∧ Y.Perm ((L.drop s).take s) ∧ X.Pairwise R ∧ Y.Pairwise R ∧ Blk R s (L.drop (2 * s)) Ys := by
 cases Xs with
 | nil =>
  have : L = [] := h
  subst this; simp at hl
 | cons X Xs =>
  obtain ⟨h1, h2, h3⟩ := h
  cases Xs with
  | nil =>
   have : L.drop s = [] := h3
   have := congrArg List.length this
   rw [List.length_drop, List.length_nil] at this; omega
  | cons Y Ys =>
   obtain ⟨g1, g2, g3⟩ := h3
   rw [List.drop_drop, show s + s = 2 * s by omega] at g3
   exact ⟨X, Y, Ys, rfl, h1, g1, h2, g2, g3⟩
theorem two_take (L : List Nat) (s : Nat) : L.take s ++ (L.drop s).take s = L.take (2 * s) := by
 rw [show 2 * s = s + s by omega, List.take_add]
theorem back_two {c : Nat → Nat → Int} {R : Nat → Nat → Prop} {L : List Nat} (h : L.Pairwise (Back c R)) (s : Nat) {X Y : List Nat} (hx : X.Perm (L.take s)) (hy : Y.Perm ((L.drop s).take s)) : ∀ x, x ∈ X → ∀ y, y ∈ Y → Back c R x y := fun x h1 y h2 => by
 rw [← List.take_append_drop s L] at h
 exact (List.pairwise_append.1 h).2.2 x (hx.mem_iff.1 h1) y (List.mem_of_mem_take (hy.mem_iff.1 h2))
set_option maxHeartbeats 8000000 in
theorem stable_spec (v : Nat → Int) (p : Nat → List D) (g : Nat) (c : Nat → Nat → Int) (R : Nat → Nat → Prop) (hR : Ord R) (hcmp : ∀ j k, CallsTo Try.prog g [elD v p j, elD v p k] (.int (c j k)))
  (L T : List Nat) (hb : L.Pairwise (Back c R)) (hnd : L.Nodup) (hT : T.Perm L) (hTs : T.Pairwise R) (hN1 : L.length ≤ 100000) :
  CallsM Try.prog 70 [.ref 1000 2 0 L.length L.length, .int L.length, .d (.fn g [])] [(1000, .row 2 (L.map (elD v p)))] (.tup []) [(1000, .row 2 (T.map (elD v p)))] := by
 generalize hN : L.length = N at *
 have hmerge := fun P A B Q => merge_all v p g c R hR hcmp N (by omega) (A.length + B.length + 1) P A B Q (by omega)
 have hsort := fun P M Q S h1 h2 h3 h4 h5 a e ha he => isort_spec v p g c R hR hcmp P M Q S h1 h2 h3 h4 N h5 (by omega) a e ha he
 refine callsM_of Try.func70 rfl (by decide +kernel) (Nat.le_of_ble_eq_true rfl) rfl (nodup_of rfl) rfl rfl rfl ?_
 intro B0 X0 w0
 refine pw_post ?_
 repeat' first | refine pw_seq ?_ | refine pw_skip ?_ | refine pw_ret ?_ | refine pw_exit ?_ | refine pw_block ?_ | refine pw_region (fun _ => false) hmix ?_ | (refine wpG_split rfl rfl (fun hc => ?_) (fun hc => ?_) <;> try simp only [hcL, reduceCtorEq] at hc) | (refine pw_cond _ rfl rfl (fun hc => ?_) (fun hc => ?_) <;> (try simp only [hcL, reduceCtorEq] at hc) <;> try (exfalso; omega)) | simp (maxSteps := 1000000) (disch := omega) only [go_sem, simprocAttr] | apply And.intro | omega | decide +kernel
 refine pw_loopI (κ := List (List Nat) × List Nat) (fun (q : List (List Nat) × List Nat) => match q with | (Ds, L2) => (∀ Fs, Blk R 20 L2 Fs → Blk R 20 L (Ds ++ Fs)) ∧ L2.Pairwise (Back c R) ∧ L2.Nodup ∧ Ds.flatten.length + L2.length = N) (fun (q : List (List Nat) × List Nat) => match q with | (Ds, L2) => [(0, .ref 1000 2 0 N N), (1, .int N), (2, .d (.fn g [])), (6, .int 20), (7, .int Ds.flatten.length), (8, .int ((Ds.flatten.length + 20 : Nat) : Int))]) (fun (q : List (List Nat) × List Nat) => match q with | (Ds, L2) => [(1000, .row 2 ((Ds.flatten ++ L2).map (elD v p)))]) (fun (q : List (List Nat) × List Nat) => match q with | (Ds, L2) => L2.length) ([], L) ?_ ?_ ?_
 ·exact ⟨fun Fs h => h, hb, hnd, by rw [← hN]; simp⟩
 ·exact eL [] _ _ (by refine ⟨?_, ?_⟩ <;> (repeat' first | exact List.forall_mem_nil _ | refine List.forall_mem_cons.2 ⟨(by first | rfl | (simp (disch := omega) only [go_sem, simprocAttr, inL, List.flatten_nil, List.nil_append]; first | done | omega | (congr 1; done))), ?_⟩); done)
 ·rintro ⟨Ds, L2⟩ ⟨h1, h2, h3, h4⟩
  dsimp only at h1 h2 h3 h4 ⊢
  by_cases hlen : 20 ≤ L2.length
  ·obtain ⟨S, hS1, hS2⟩ := exists_sorted hR (h3.sublist (List.take_sublist 20 L2))
   have ht := List.length_take (i := 20) (l := L2)
   have hSl := hS1.length_eq
   have hso := hsort Ds.flatten (L2.take 20) (L2.drop 20) S (h2.sublist (List.take_sublist _ _)) (h3.sublist (List.take_sublist _ _)) hS1 hS2 (by rw [List.length_drop]; omega) Ds.flatten.length ((Ds.flatten.length + 20 : Nat) : Int) rfl (by omega)
   rw [List.append_assoc, List.take_append_drop] at hso
   have e1 : (Ds ++ [S]).flatten = Ds.flatten ++ S := by simp
   have e2 : (Ds.flatten ++ S).length = Ds.flatten.length + 20 := by rw [List.length_append]; omega
   have v0 : ((Ds.flatten.length + 20 : Nat) : Int) + 20 = ((Ds.flatten.length + 20 + 20 : Nat) : Int) := by omega
   repeat' first | refine pw_seq ?_ | refine pw_skip ?_ | refine pw_ret ?_ | refine pw_exit ?_ | refine pw_block ?_ | refine pw_region (fun _ => false) hmix ?_ | refine rcM [] (hso) rfl ?_ | (refine wpG_split rfl rfl (fun hc => ?_) (fun hc => ?_) <;> try simp only [hcL, reduceCtorEq] at hc) | (refine pw_cond _ rfl rfl (fun hc => ?_) (fun hc => ?_) <;> (try simp only [hcL, reduceCtorEq] at hc) <;> try (exfalso; omega)) | simp (maxSteps := 1000000) (disch := omega) only [go_sem, simprocAttr, v0] | apply And.intro | omega | decide +kernel
   refine ⟨(Ds ++ [S], L2.drop 20), ?_, eL [] _ _ (by refine ⟨?_, ?_⟩ <;> (repeat' first | exact List.forall_mem_nil _ | refine List.forall_mem_cons.2 ⟨(by first | rfl | (simp (disch := omega) only [go_sem, simprocAttr, inL, e1, e2]; first | done | omega | (congr 1; done))), ?_⟩); done), ?_⟩
   ·dsimp only
    refine ⟨fun Fs hF => ?_, h2.sublist (List.drop_sublist _ _), h3.sublist (List.drop_sublist _ _), by rw [e1, e2, List.length_drop]; omega⟩
    have := h1 (S :: Fs) ⟨hS1, hS2, hF⟩
    rw [List.append_assoc]; exact this
   ·dsimp only; rw [List.length_drop]; omega
  ·obtain ⟨S, hS1, hS2⟩ := exists_sorted hR h3
   have hSl := hS1.length_eq
   have hso := hsort Ds.flatten L2 [] S h2 h3 hS1 hS2 (by rw [List.length_nil]; omega) Ds.flatten.length N rfl (by omega)
   rw [List.append_nil, List.append_nil] at hso
   have hB : Blk R 20 L (Ds ++ [S]) := h1 [S] ⟨by rw [List.take_of_length_le (by omega)]; exact hS1, hS2, List.drop_of_length_le (by omega)⟩
   have e1 : (Ds ++ [S]).flatten = Ds.flatten ++ S := by simp
   repeat' first | refine pw_seq ?_ | refine pw_skip ?_ | refine pw_ret ?_ | refine pw_exit ?_ | refine pw_block ?_ | refine pw_region (fun _ => false) hmix ?_ | refine rcM [] (hso) rfl ?_ | (refine wpG_split rfl rfl (fun hc => ?_) (fun hc => ?_) <;> try simp only [hcL, reduceCtorEq] at hc) | (refine pw_cond _ rfl rfl (fun hc => ?_) (fun hc => ?_) <;> (try simp only [hcL, reduceCtorEq] at hc) <;> try (exfalso; omega)) | simp (maxSteps := 1000000) (disch := omega) only [go_sem, simprocAttr] | apply And.intro | omega | decide +kernel
   refine pw_loopI (κ := Nat × List (List Nat)) (fun (q : Nat × List (List Nat)) => match q with | (s, Ds) => 20 ≤ s ∧ s ≤ 400000 ∧ Blk R s L Ds) (fun (q : Nat × List (List Nat)) => match q with | (s, Ds) => [(0, .ref 1000 2 0 N N), (1, .int N), (2, .d (.fn g [])), (6, .int s)]) (fun (q : Nat × List (List Nat)) => match q with | (s, Ds) => [(1000, .row 2 (Ds.flatten.map (elD v p)))]) (fun (q : Nat × List (List Nat)) => match q with | (s, Ds) => N - s) (20, Ds ++ [S]) ?_ ?_ ?_
   ·exact ⟨Nat.le_refl _, by omega, hB⟩
   ·exact eL [] _ _ (by refine ⟨?_, ?_⟩ <;> (repeat' first | exact List.forall_mem_nil _ | refine List.forall_mem_cons.2 ⟨(by first | rfl | (simp (disch := omega) only [go_sem, simprocAttr, inL, e1]; first | done | omega | (congr 1; done))), ?_⟩); done)
   ·clear h1 h2 h3 h4 hlen hS1 hS2 hSl hso hB e1
    rintro ⟨s, Ds⟩ ⟨g1, g2, g3⟩
    dsimp only at g1 g2 g3 ⊢
    rcases Nat.lt_or_ge s N with hlt | hge
    ·repeat' first | refine pw_seq ?_ | refine pw_skip ?_ | refine pw_ret ?_ | refine pw_exit ?_ | refine pw_block ?_ | refine pw_region (fun _ => false) hmix ?_ | (refine wpG_split rfl rfl (fun hc => ?_) (fun hc => ?_) <;> try simp only [hcL, reduceCtorEq] at hc) | (refine pw_cond _ rfl rfl (fun hc => ?_) (fun hc => ?_) <;> (try simp only [hcL, reduceCtorEq] at hc) <;> try (exfalso; omega)) | simp (maxSteps := 1000000) (disch := omega) only [go_sem, simprocAttr] | apply And.intro | omega | decide +kernel
     refine pw_loopI (κ := List (List Nat) × List (List Nat) × List Nat) (fun (q : List (List Nat) × List (List Nat) × List Nat) => match q with | (Es, Ds, L2) => (∀ Fs, Blk R (2 * s) L2 Fs → Blk R (2 * s) L (Es ++ Fs)) ∧ Blk R s L2 Ds ∧ L2.Pairwise (Back c R) ∧ L2.Nodup ∧ Es.flatten.length + L2.length = N) (fun (q : List (List Nat) × List (List Nat) × List Nat) => match q with | (Es, Ds, L2) => [(0, .ref 1000 2 0 N N), (1, .int N), (2, .d (.fn g [])), (6, .int s), (7, .int Es.flatten.length), (8, .int ((Es.flatten.length + 2 * s : Nat) : Int))]) (fun (q : List (List Nat) × List (List Nat) × List Nat) => match q with | (Es, Ds, L2) => [(1000, .row 2 ((Es.flatten ++ Ds.flatten).map (elD v p)))]) (fun (q : List (List Nat) × List (List Nat) × List Nat) => match q with | (Es, Ds, L2) => L2.length) ([], Ds, L) ?_ ?_ ?_
     ·exact ⟨fun Fs h => h, g3, hb, hnd, by rw [← hN]; simp⟩
     ·have z2 : ((2 * s : Nat) : Int) = 2 * (s : Int) := by omega
      exact eL [] _ _ (by refine ⟨?_, ?_⟩ <;> (repeat' first | exact List.forall_mem_nil _ | refine List.forall_mem_cons.2 ⟨(by first | rfl | (simp (disch := omega) only [go_sem, simprocAttr, inL, List.flatten_nil, List.nil_append, List.length_nil, Nat.zero_add, z2]; first | done | omega | (congr 1; done))), ?_⟩); done)
     ·rintro ⟨Es, Ds, L2⟩ ⟨h1, h0, h2, h3, h4⟩
      dsimp only at h0 h1 h2 h3 h4 ⊢
      by_cases hlen : 2 * s ≤ L2.length
      ·obtain ⟨X, Y, Ys, rfl, p1, p2, s1, s2, hY⟩ := h0.two (by omega) (by omega)
       have l1 := p1.length_eq
       have l2 := p2.length_eq
       rw [List.length_take] at l1
       rw [List.length_take, List.length_drop] at l2
       have hXY : (X ++ Y).Perm (L2.take (2 * s)) := by rw [← two_take]; exact p1.append p2
       have hnXY : (X ++ Y).Nodup := hXY.nodup_iff.2 (h3.sublist (List.take_sublist _ _))
       obtain ⟨S, hS1, hS2⟩ := exists_sorted hR hnXY
       have lS := hS1.length_eq
       rw [List.length_append] at lS
       have lY := hY.perm.length_eq
       rw [List.length_drop] at lY
       have hme := hmerge Es.flatten X Y Ys.flatten S (by omega) (by omega) s1 s2 (back_two h2 s p1 p2) hnXY hS1 hS2 (by omega) Es.flatten.length ((Es.flatten.length + s : Nat) : Int) ((Es.flatten.length + 2 * s : Nat) : Int) rfl (by omega) (by omega)
       have r1 : Es.flatten ++ X ++ Y ++ Ys.flatten = Es.flatten ++ (X :: Y :: Ys).flatten := by simp
       have r2 : Es.flatten ++ S ++ Ys.flatten = (Es ++ [S]).flatten ++ Ys.flatten := by simp
       rw [r1, r2] at hme
       have e2 : (Es ++ [S]).flatten.length = Es.flatten.length + 2 * s := by
        have : (Es ++ [S]).flatten = Es.flatten ++ S := by simp
        rw [this, List.length_append]; omega
       have v1 : (Es.flatten.length : Int) + (s : Int) = ((Es.flatten.length + s : Nat) : Int) := by omega
       have v2 : ((Es.flatten.length + 2 * s : Nat) : Int) + 2 * (s : Int) = ((Es.flatten.length + 2 * s + 2 * s : Nat) : Int) := by omega
       repeat' first | refine pw_seq ?_ | refine pw_skip ?_ | refine pw_ret ?_ | refine pw_exit ?_ | refine pw_block ?_ | refine pw_region (fun _ => false) hmix ?_ | refine rcM [] (hme) rfl ?_ | (refine wpG_split rfl rfl (fun hc => ?_) (fun hc => ?_) <;> try simp only [hcL, reduceCtorEq] at hc) | (refine pw_cond _ rfl rfl (fun hc => ?_) (fun hc => ?_) <;> (try simp only [hcL, reduceCtorEq] at hc) <;> try (exfalso; omega)) | simp (maxSteps := 1000000) (disch := omega) only [go_sem, simprocAttr, v1, v2] | apply And.intro | omega | decide +kernel
       refine ⟨(Es ++ [S], Ys, L2.drop (2 * s)), ?_, eL [] _ _ (by refine ⟨?_, ?_⟩ <;> (repeat' first | exact List.forall_mem_nil _ | refine List.forall_mem_cons.2 ⟨(by first | rfl | (simp (disch := omega) only [go_sem, simprocAttr, inL, e2]; first | done | omega | (congr 1; done))), ?_⟩); done), ?_⟩
       ·dsimp only
        refine ⟨fun Fs hF => ?_, hY, h2.sublist (List.drop_sublist _ _), h3.sublist (List.drop_sublist _ _), by rw [e2, List.length_drop]; omega⟩
        have := h1 (S :: Fs) ⟨hS1.trans hXY, hS2, hF⟩
        rw [List.append_assoc]; exact this
       ·dsimp only; rw [List.length_drop]; omega
      ·have v1 : (Es.flatten.length : Int) + (s : Int) = ((Es.flatten.length + s : Nat) : Int) := by omega
       have v3 : (s : Int) * 2 = ((2 * s : Nat) : Int) := by omega
       by_cases hl2 : s < L2.length
       ·obtain ⟨X, Y, Ys, rfl, p1, p2, s1, s2, hY⟩ := h0.two (by omega) (by omega)
        have l1 := p1.length_eq
        have l2 := p2.length_eq
        rw [List.length_take] at l1
        rw [List.length_take, List.length_drop] at l2
        have hXY : (X ++ Y).Perm (L2.take (2 * s)) := by rw [← two_take]; exact p1.append p2
        have hnXY : (X ++ Y).Nodup := hXY.nodup_iff.2 (h3.sublist (List.take_sublist _ _))
        obtain ⟨S, hS1, hS2⟩ := exists_sorted hR hnXY
        have lS := hS1.length_eq
        rw [List.length_append] at lS
        rw [List.drop_of_length_le (by omega)] at hY
        have hYf := hY.nil_flat
        have hme := hmerge Es.flatten X Y [] S (by omega) (by omega) s1 s2 (back_two h2 s p1 p2) hnXY hS1 hS2 (by rw [List.length_nil]; omega) Es.flatten.length ((Es.flatten.length + s : Nat) : Int) N rfl (by omega) (by omega)
        have r1 : Es.flatten ++ X ++ Y ++ [] = Es.flatten ++ (X :: Y :: Ys).flatten := by simp [hYf]
        have r2 : Es.flatten ++ S ++ [] = (Es ++ [S]).flatten := by simp
        rw [r1, r2] at hme
        have hF : Blk R (2 * s) L (Es ++ [S]) := h1 [S] ⟨hS1.trans hXY, hS2, List.drop_of_length_le (by omega)⟩
        repeat' first | refine pw_seq ?_ | refine pw_skip ?_ | refine pw_ret ?_ | refine pw_exit ?_ | refine pw_block ?_ | refine pw_region (fun _ => false) hmix ?_ | refine rcM [] (hme) rfl ?_ | (refine wpG_split rfl rfl (fun hc => ?_) (fun hc => ?_) <;> try simp only [hcL, reduceCtorEq] at hc) | (refine pw_cond _ rfl rfl (fun hc => ?_) (fun hc => ?_) <;> (try simp only [hcL, reduceCtorEq] at hc) <;> try (exfalso; omega)) | simp (maxSteps := 1000000) (disch := omega) only [go_sem, simprocAttr, v1, v3] | apply And.intro | omega | decide +kernel
        refine ⟨(2 * s, Es ++ [S]), ?_, eL [] _ _ (by refine ⟨?_, ?_⟩ <;> (repeat' first | exact List.forall_mem_nil _ | refine List.forall_mem_cons.2 ⟨(by first | rfl | (simp (disch := omega) only [go_sem, simprocAttr, inL]; first | done | omega | (congr 1; done))), ?_⟩); done), ?_⟩
        ·exact ⟨by omega, by omega, hF⟩
        ·dsimp only; omega
       ·have hF := h1 Ds (h0.short (by omega) (by omega))
        have r2 : Es.flatten ++ Ds.flatten = (Es ++ Ds).flatten := by simp
        repeat' first | refine pw_seq ?_ | refine pw_skip ?_ | refine pw_ret ?_ | refine pw_exit ?_ | refine pw_block ?_ | refine pw_region (fun _ => false) hmix ?_ | (refine wpG_split rfl rfl (fun hc => ?_) (fun hc => ?_) <;> try simp only [hcL, reduceCtorEq] at hc) | (refine pw_cond _ rfl rfl (fun hc => ?_) (fun hc => ?_) <;> (try simp only [hcL, reduceCtorEq] at hc) <;> try (exfalso; omega)) | simp (maxSteps := 1000000) (disch := omega) only [go_sem, simprocAttr, v1, v3] | apply And.intro | omega | decide +kernel
        refine ⟨(2 * s, Es ++ Ds), ?_, eL [] _ _ (by refine ⟨?_, ?_⟩ <;> (repeat' first | exact List.forall_mem_nil _ | refine List.forall_mem_cons.2 ⟨(by first | rfl | (simp (disch := omega) only [go_sem, simprocAttr, inL, r2]; first | done | omega | (congr 1; done))), ?_⟩); done), ?_⟩
        ·exact ⟨by omega, by omega, hF⟩
        ·dsimp only; omega
    ·have hfl : Ds.flatten = T := uniq hR (g3.perm.trans hT.symm) (g3.one (by omega)) hTs
     repeat' first | refine pw_seq ?_ | refine pw_skip ?_ | refine pw_ret ?_ | refine pw_exit ?_ | refine pw_block ?_ | refine pw_region (fun _ => false) hmix ?_ | (refine wpG_split rfl rfl (fun hc => ?_) (fun hc => ?_) <;> try simp only [hcL, reduceCtorEq] at hc) | (refine pw_cond _ rfl rfl (fun hc => ?_) (fun hc => ?_) <;> (try simp only [hcL, reduceCtorEq] at hc) <;> try (exfalso; omega)) | simp (maxSteps := 1000000) (disch := omega) only [go_sem, simprocAttr] | apply And.intro | omega | decide +kernel
     refine ⟨_, entL_iff.1 (eL [] [] [(1000, .row 2 (T.map (elD v p)))] (by refine ⟨?_, ?_⟩ <;> (repeat' first | exact List.forall_mem_nil _ | refine List.forall_mem_cons.2 ⟨(by first | rfl | (simp (disch := omega) only [go_sem, simprocAttr, inL, hfl]; first | done | omega | (congr 1; done))), ?_⟩); done)), ?_⟩
     exact ⟨⟨[], rfl, trivial⟩, fmc ⟨rfl, fmn⟩⟩
theorem SortStable_spec (v : Nat → Int) (p : Nat → List D) (g : Nat) (c : Nat → Nat → Int) (R : Nat → Nat → Prop) (hR : Ord R) (hcmp : ∀ j k, CallsTo Try.prog g [elD v p j, elD v p k] (.int (c j k)))
  (L T : List Nat) (hb : L.Pairwise (Back c R)) (hnd : L.Nodup) (hT : T.Perm L) (hTs : T.Pairwise R) (hN1 : L.length ≤ 100000) :
  CallsM Try.prog 47 [.ref 1000 2 0 L.length L.length, .d (.fn g [])] [(1000, .row 2 (L.map (elD v p)))] (.tup []) [(1000, .row 2 (T.map (elD v p)))] := by
 have h1 := stable_spec v p g c R hR hcmp L T hb hnd hT hTs hN1
 refine callsM_of Try.func47 rfl (by decide +kernel) (Nat.le_of_ble_eq_true rfl) rfl (nodup_of rfl) rfl rfl rfl ?_
 intro B0 X0 w0
 refine pw_post ?_
 repeat' first | refine pw_seq ?_ | refine pw_skip ?_ | refine pw_ret ?_ | refine pw_exit ?_ | refine pw_block ?_ | refine pw_region (fun _ => false) hmix ?_ | refine rcM [] (h1) rfl ?_ | (refine wpG_split rfl rfl (fun hc => ?_) (fun hc => ?_) <;> try simp only [hcL, reduceCtorEq] at hc) | (refine pw_cond _ rfl rfl (fun hc => ?_) (fun hc => ?_) <;> (try simp only [hcL, reduceCtorEq] at hc) <;> try (exfalso; omega)) | simp (maxSteps := 1000000) (disch := omega) only [go_sem, simprocAttr] | apply And.intro | omega | decide +kernel
 refine ⟨_, entL_iff.1 (eL [] [] [(1000, .row 2 (T.map (elD v p)))] (by refine ⟨?_, ?_⟩ <;> (repeat' first | exact List.forall_mem_nil _ | refine List.forall_mem_cons.2 ⟨(by first | rfl | (simp (disch := omega) only [go_sem, simprocAttr, inL]; first | done | omega | (congr 1; done))), ?_⟩); done)), ?_⟩
 exact ⟨⟨[], rfl, trivial⟩, fmc ⟨rfl, fmn⟩⟩
end Go.Proofs.Ytldbcbclhpcofaa
