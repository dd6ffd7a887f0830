/- Stable sorting: blocks sorted by insertion, then merged. -/
import Derived.Test.YtldbcbclhpcofaaGreatBaS1
import Derived.Test.YtldbcbclhpcofaaGreatStD
import Derived.Test.YtldbcbclhpcofaaGreatPSBridge
set_option linter.unusedSimpArgs false
set_option linter.unusedVariables false
namespace Go.Proofs.YtldbcbclhpcofaaGreat
open Go Go.PS Go.Proofs
open Go.Stb
set_option maxRecDepth 100000
attribute [local irreducible] wpRun wpG CallsTo CallsM

theorem merge_all (v : Nat → Int) (p : Nat → List D) (g : Nat) (c : Nat → Nat → Int) (R : Nat → Nat → Prop) (hR : Ord R) (hcmp : ∀ j k, CallsTo Tryz.prog g [elD v p j, elD v p k] (.int (c j k))) (N : Nat) (hN1 : N ≤ 1000000) :
  ∀ (n : Nat) (P A B Q : List Nat), A.length + B.length < n → MergeOk v p g c R N P A B Q := by
 intro n
 induction n with
 | zero => intro P A B Q h; omega
 | succ n ih =>
  intro P A B Q hn T hA hB hAs hBs hb hnd hT hTs hN a m b ha hm hbb
  subst ha hm hbb
  have hne : ∀ s, s ∈ A → ∀ z, z ∈ B → s ≠ z := (List.nodup_append.1 hnd).2.2
  by_cases c1 : A.length = 1
  ·obtain ⟨x, rfl⟩ := List.length_eq_one_iff.1 c1
   exact merge_left v p g c R hR hcmp P B Q T x hBs (fun z hz => hb x (by simp) z hz) (fun z hz => hne x (by simp) z hz) hT hTs N (by rw [← hN, List.length_singleton]; omega) hN1 _ _ _ rfl rfl rfl
  ·by_cases c2 : B.length = 1
   ·obtain ⟨y, rfl⟩ := List.length_eq_one_iff.1 c2
    exact merge_right v p g c R hR hcmp P A Q T y (by omega) hAs (fun z hz => hb z hz y (by simp)) (fun z hz => hne z hz y (by simp)) hT hTs N (by rw [← hN, List.length_singleton]; omega) hN1 _ _ _ rfl rfl rfl
   ·exact merge_main v p g c R hR hcmp N hN1 P A B Q T (by omega) (by omega) (fun P' A' B' Q' h => ih P' A' B' Q' (by omega)) hAs hBs hb hnd hT hTs hN
def Blk (R : Nat → Nat → Prop) (s : Nat) : List Nat → List (List Nat) → Prop
 | L, [] => L = []
 | L, X :: Xs => X.Perm (L.take s) ∧ X.Pairwise R ∧ Blk R s (L.drop s) Xs
theorem Blk.nil_flat {R : Nat → Nat → Prop} {s : Nat} : ∀ {Xs : List (List Nat)}, Blk R s [] Xs → Xs.flatten = []
 | [], _ => rfl
 | X :: Xs, h => by
  obtain ⟨h1, _, h3⟩ := h
  rw [List.take_nil, List.perm_nil] at h1
  rw [List.drop_nil] at h3
  rw [List.flatten_cons, h1, Blk.nil_flat h3]; rfl
theorem Blk.nil_any {R : Nat → Nat → Prop} {s t : Nat} : ∀ {Xs : List (List Nat)}, Blk R s [] Xs → Blk R t [] Xs
 | [], h => h
 | X :: Xs, h => by
  obtain ⟨h1, h2, h3⟩ := h
  rw [List.take_nil] at h1
  rw [List.drop_nil] at h3
  exact ⟨by rw [List.take_nil]; exact h1, h2, by rw [List.drop_nil]; exact Blk.nil_any h3⟩
theorem Blk.perm {R : Nat → Nat → Prop} {s : Nat} : ∀ {L : List Nat} {Xs : List (List Nat)}, Blk R s L Xs → Xs.flatten.Perm L
 | L, [], h => by
  have : L = [] := h
  subst this; exact List.Perm.refl _
 | L, X :: Xs, h => by
  obtain ⟨h1, _, h3⟩ := h
  have := h1.append (Blk.perm h3)
  rw [List.take_append_drop] at this
  rw [List.flatten_cons]; exact this
theorem Blk.short {R : Nat → Nat → Prop} {s t : Nat} {L : List Nat} {Xs : List (List Nat)} (h : Blk R s L Xs) (hl : L.length ≤ s) (ht : L.length ≤ t) : Blk R t L Xs := by
 cases Xs with
 | nil => exact h
 | cons X Xs =>
  obtain ⟨h1, h2, h3⟩ := h
  rw [List.drop_of_length_le hl] at h3
  rw [List.take_of_length_le hl] at h1
  exact ⟨by rw [List.take_of_length_le ht]; exact h1, h2, by rw [List.drop_of_length_le ht]; exact h3.nil_any⟩
theorem Blk.one {R : Nat → Nat → Prop} {s : Nat} {L : List Nat} {Xs : List (List Nat)} (h : Blk R s L Xs) (hl : L.length ≤ s) : Xs.flatten.Pairwise R := by
 cases Xs with
 | nil => exact List.Pairwise.nil
 | cons X Xs =>
  obtain ⟨h1, h2, h3⟩ := h
  rw [List.drop_of_length_le hl] at h3
  rw [List.flatten_cons, h3.nil_flat, List.append_nil]; exact h2
theorem Blk.two {R : Nat → Nat → Prop} {s : Nat} {L : List Nat} {Xs : List (List Nat)} (h : Blk R s L Xs) (hl : s < L.length) (hs : 0 < s) :
  ∃ X Y Ys, Xs = X :: Y :: Ys ∧ X.Perm (L.take s) ∧ Y.Perm ((L.drop s).take s) ∧ X.Pairwise R ∧ Y.Pairwise R ∧ Blk R s (L.drop (2 * s)) Ys := by
 cases Xs with
 | nil =>
  have : L = [] := h
  subst this; simp at hl
 | cons X Xs =>
  obtain ⟨h1, h2, h3⟩ := h
  cases Xs with
  | nil =>
   have : L.drop s = [] := h3
   have := congrArg List.length this
   rw [List.length_drop, List.length_nil] at this; omega
  | cons Y Ys =>
   obtain ⟨g1, g2, g3⟩ := h3
   rw [List.drop_drop, show s + s = 2 * s by omega] at g3
   exact ⟨X, Y, Ys, rfl, h1, g1, h2, g2, g3⟩
theorem two_take (L : List Nat) (s : Nat) : L.take s ++ (L.drop s).take s = L.take (2 * s) := by
 rw [show 2 * s = s + s by omega, List.take_add]
theorem back_two {c : Nat → Nat → Int} {R : Nat → Nat → Prop} {L : List Nat} (h : L.Pairwise (Back c R)) (s : Nat) {X Y : List Nat} (hx : X.Perm (L.take s)) (hy : Y.Perm ((L.drop s).take s)) : ∀ x, x ∈ X → ∀ y, y ∈ Y → Back c R x y := fun x h1 y h2 => by
 rw [← List.take_append_drop s L] at h
 exact (List.pairwise_append.1 h).2.2 x (hx.mem_iff.1 h1) y (List.mem_of_mem_take (hy.mem_iff.1 h2))
set_option maxHeartbeats 8000000 in
theorem stable_spec (v : Nat → Int) (p : Nat → List D) (g : Nat) (c : Nat → Nat → Int) (R : Nat → Nat → Prop) (hR : Ord R) (hcmp : ∀ j k, CallsTo Tryz.prog g [elD v p j, elD v p k] (.int (c j k)))
  (L T : List Nat) (hb : L.Pairwise (Back c R)) (hnd : L.Nodup) (hT : T.Perm L) (hTs : T.Pairwise R) (hN1 : L.length ≤ 100000) :
  CallsM Tryz.prog 105 [.ref 1000 2 0 L.length L.length, .int L.length, .d (.fn g [])] [(1000, .row 2 (L.map (elD v p)))] (.tup []) [(1000, .row 2 (T.map (elD v p)))] := by
 generalize hN : L.length = N at *
 have hmerge := fun P A B Q => merge_all v p g c R hR hcmp N (by omega) (A.length + B.length + 1) P A B Q (by omega)
 have hsort := fun P M Q S h1 h2 h3 h4 h5 a e ha he => isort_spec v p g c R hR hcmp P M Q S h1 h2 h3 h4 N h5 (by omega) a e ha he
 refine callsM_of Tryz.func105 rfl (by decide +kernel) (Nat.le_of_ble_eq_true rfl) rfl (nodup_of rfl) rfl rfl rfl ?_
 intro B0 X0 w0
 refine pw_post ?_
 repeat' first | refine pw_seq ?_ | refine pw_skip ?_ | refine pw_ret ?_ | refine pw_exit ?_ | refine pw_block ?_ | refine pw_region (fun _ => false) hmix ?_ | (refine wpG_split rfl rfl (fun hc => ?_) (fun hc => ?_) <;> try simp only [hcL, reduceCtorEq] at hc) | (refine pw_cond _ rfl rfl (fun hc => ?_) (fun hc => ?_) <;> (try simp only [hcL, reduceCtorEq] at hc) <;> try (exfalso; omega)) | simp (maxSteps := 1000000) (disch := omega) only [go_sem, simprocAttr] | apply And.intro | omega | decide +kernel
 refine pw_loopI (κ := List (List Nat) × List Nat) (fun (q : List (List Nat) × List Nat) => match q with | (Ds, L2) => (∀ Fs, Blk R 20 L2 Fs → Blk R 20 L (Ds ++ Fs)) ∧ L2.Pairwise (Back c R) ∧ L2.Nodup ∧ Ds.flatten.length + L2.length = N) (fun (q : List (List Nat) × List Nat) => match q with | (Ds, L2) => [(0, .ref 1000 2 0 N N), (1, .int N), (2, .d (.fn g [])), (6, .int 20), (7, .int Ds.flatten.length), (8, .int ((Ds.flatten.length + 20 : Nat) : Int))]) (fun (q : List (List Nat) × List Nat) => match q with | (Ds, L2) => [(1000, .row 2 ((Ds.flatten ++ L2).map (elD v p)))]) (fun (q : List (List Nat) × List Nat) => match q with | (Ds, L2) => L2.length) ([], L) ?_ ?_ ?_
 ·exact ⟨fun Fs h => h, hb, hnd, by rw [← hN]; simp⟩
 ·exact eL [] _ _ (by refine ⟨?_, ?_⟩ <;> (repeat' first | exact List.forall_mem_nil _ | refine List.forall_mem_cons.2 ⟨(by first | rfl | (simp (disch := omega) only [go_sem, simprocAttr, inL, List.flatten_nil, List.nil_append]; first | done | omega | (congr 1; done))), ?_⟩); done)
 ·rintro ⟨Ds, L2⟩ ⟨h1, h2, h3, h4⟩
  dsimp only at h1 h2 h3 h4 ⊢
  by_cases hlen : 20 ≤ L2.length
  ·obtain ⟨S, hS1, hS2⟩ := exists_sorted hR (h3.sublist (List.take_sublist 20 L2))
   have ht := List.length_take (i := 20) (l := L2)
   have hSl := hS1.length_eq
   have hso := hsort Ds.flatten (L2.take 20) (L2.drop 20) S (h2.sublist (List.take_sublist _ _)) (h3.sublist (List.take_sublist _ _)) hS1 hS2 (by rw [List.length_drop]; omega) Ds.flatten.length ((Ds.flatten.length + 20 : Nat) : Int) rfl (by omega)
   rw [List.append_assoc, List.take_append_drop] at hso
   have e1 : (Ds ++ [S]).flatten = Ds.flatten ++ S := by simp
   have e2 : (Ds.flatten ++ S).length = Ds.flatten.length + 20 := by rw [List.length_append]; omega
   have v0 : ((Ds.flatten.length + 20 : Nat) : Int) + 20 = ((Ds.flatten.length + 20 + 20 : Nat) : Int) := by omega
   repeat' first | refine pw_seq ?_ | refine pw_skip ?_ | refine pw_ret ?_ | refine pw_exit ?_ | refine pw_block ?_ | refine pw_region (fun _ => false) hmix ?_ | refine rcM [] (hso) rfl ?_ | (refine wpG_split rfl rfl (fun hc => ?_) (fun hc => ?_) <;> try simp only [hcL, reduceCtorEq] at hc) | (refine pw_cond _ rfl rfl (fun hc => ?_) (fun hc => ?_) <;> (try simp only [hcL, reduceCtorEq] at hc) <;> try (exfalso; omega)) | simp (maxSteps := 1000000) (disch := omega) only [go_sem, simprocAttr, v0] | apply And.intro | omega | decide +kernel
   refine ⟨(Ds ++ [S], L2.drop 20), ?_, eL [] _ _ (by refine ⟨?_, ?_⟩ <;> (repeat' first | exact List.forall_mem_nil _ | refine List.forall_mem_cons.2 ⟨(by first | rfl | (simp (disch := omega) only [go_sem, simprocAttr, inL, e1, e2]; first | done | omega | (congr 1; done))), ?_⟩); done), ?_⟩
   ·dsimp only
    refine ⟨fun Fs hF => ?_, h2.sublist (List.drop_sublist _ _), h3.sublist (List.drop_sublist _ _), by rw [e1, e2, List.length_drop]; omega⟩
    have := h1 (S :: Fs) ⟨hS1, hS2, hF⟩
    rw [List.append_assoc]; exact this
   ·dsimp only; rw [List.length_drop]; omega
  ·obtain ⟨S, hS1, hS2⟩ := exists_sorted hR h3
   have hSl := hS1.length_eq
   have hso := hsort Ds.flatten L2 [] S h2 h3 hS1 hS2 (by rw [List.length_nil]; omega) Ds.flatten.length N rfl (by omega)
   rw [List.append_nil, List.append_nil] at hso
   have hB : Blk R 20 L (Ds ++ [S]) := h1 [S] ⟨by rw [List.take_of_length_le (by omega)]; exact hS1, hS2, List.drop_of_length_le (by omega)⟩
   have e1 : (Ds ++ [S]).flatten = Ds.flatten ++ S := by simp
   repeat' first | refine pw_seq ?_ | refine pw_skip ?_ | refine pw_ret ?_ | refine pw_exit ?_ | refine pw_block ?_ | refine pw_region (fun _ => false) hmix ?_ | refine rcM [] (hso) rfl ?_ | (refine wpG_split rfl rfl (fun hc => ?_) (fun hc => ?_) <;> try simp only [hcL, reduceCtorEq] at hc) | (refine pw_cond _ rfl rfl (fun hc => ?_) (fun hc => ?_) <;> (try simp only [hcL, reduceCtorEq] at hc) <;> try (exfalso; omega)) | simp (maxSteps := 1000000) (disch := omega) only [go_sem, simprocAttr] | apply And.intro | omega | decide +kernel
   refine pw_loopI (κ := Nat × List (List Nat)) (fun (q : Nat × List (List Nat)) => match q with | (s, Ds) => 20 ≤ s ∧ s ≤ 400000 ∧ Blk R s L Ds) (fun (q : Nat × List (List Nat)) => match q with | (s, Ds) => [(0, .ref 1000 2 0 N N), (1, .int N), (2, .d (.fn g [])), (6, .int s)]) (fun (q : Nat × List (List Nat)) => match q with | (s, Ds) => [(1000, .row 2 (Ds.flatten.map (elD v p)))]) (fun (q : Nat × List (List Nat)) => match q with | (s, Ds) => N - s) (20, Ds ++ [S]) ?_ ?_ ?_
   ·exact ⟨Nat.le_refl _, by omega, hB⟩
   ·exact eL [] _ _ (by refine ⟨?_, ?_⟩ <;> (repeat' first | exact List.forall_mem_nil _ | refine List.forall_mem_cons.2 ⟨(by first | rfl | (simp (disch := omega) only [go_sem, simprocAttr, inL, e1]; first | done | omega | (congr 1; done))), ?_⟩); done)
   ·clear h1 h2 h3 h4 hlen hS1 hS2 hSl hso hB e1
    rintro ⟨s, Ds⟩ ⟨g1, g2, g3⟩
    dsimp only at g1 g2 g3 ⊢
    rcases Nat.lt_or_ge s N with hlt | hge
    ·repeat' first | refine pw_seq ?_ | refine pw_skip ?_ | refine pw_ret ?_ | refine pw_exit ?_ | refine pw_block ?_ | refine pw_region (fun _ => false) hmix ?_ | (refine wpG_split rfl rfl (fun hc => ?_) (fun hc => ?_) <;> try simp only [hcL, reduceCtorEq] at hc) | (refine pw_cond _ rfl rfl (fun hc => ?_) (fun hc => ?_) <;> (try simp only [hcL, reduceCtorEq] at hc) <;> try (exfalso; omega)) | simp (maxSteps := 1000000) (disch := omega) only [go_sem, simprocAttr] | apply And.intro | omega | decide +kernel
     refine pw_loopI (κ := List (List Nat) × List (List Nat) × List Nat) (fun (q : List (List Nat) × List (List Nat) × List Nat) => match q with | (Es, Ds, L2) => (∀ Fs, Blk R (2 * s) L2 Fs → Blk R (2 * s) L (Es ++ Fs)) ∧ Blk R s L2 Ds ∧ L2.Pairwise (Back c R) ∧ L2.Nodup ∧ Es.flatten.length + L2.length = N) (fun (q : List (List Nat) × List (List Nat) × List Nat) => match q with | (Es, Ds, L2) => [(0, .ref 1000 2 0 N N), (1, .int N), (2, .d (.fn g [])), (6, .int s), (7, .int Es.flatten.length), (8, .int ((Es.flatten.length + 2 * s : Nat) : Int))]) (fun (q : List (List Nat) × List (List Nat) × List Nat) => match q with | (Es, Ds, L2) => [(1000, .row 2 ((Es.flatten ++ Ds.flatten).map (elD v p)))]) (fun (q : List (List Nat) × List (List Nat) × List Nat) => match q with | (Es, Ds, L2) => L2.length) ([], Ds, L) ?_ ?_ ?_
     ·exact ⟨fun Fs h => h, g3, hb, hnd, by rw [← hN]; simp⟩
     ·have z2 : ((2 * s : Nat) : Int) = 2 * (s : Int) := by omega
      exact eL [] _ _ (by refine ⟨?_, ?_⟩ <;> (repeat' first | exact List.forall_mem_nil _ | refine List.forall_mem_cons.2 ⟨(by first | rfl | (simp (disch := omega) only [go_sem, simprocAttr, inL, List.flatten_nil, List.nil_append, List.length_nil, Nat.zero_add, z2]; first | done | omega | (congr 1; done))), ?_⟩); done)
     ·rintro ⟨Es, Ds, L2⟩ ⟨h1, h0, h2, h3, h4⟩
      dsimp only at h0 h1 h2 h3 h4 ⊢
      by_cases hlen : 2 * s ≤ L2.length
      ·obtain ⟨X, Y, Ys, rfl, p1, p2, s1, s2, hY⟩ := h0.two (by omega) (by omega)
       have l1 := p1.length_eq
       have l2 := p2.length_eq
       rw [List.length_take] at l1
       rw [List.length_take, List.length_drop] at l2
       have hXY : (X ++ Y).Perm (L2.take (2 * s)) := by rw [← two_take]; exact p1.append p2
       have hnXY : (X ++ Y).Nodup := hXY.nodup_iff.2 (h3.sublist (List.take_sublist _ _))
       obtain ⟨S, hS1, hS2⟩ := exists_sorted hR hnXY
       have lS := hS1.length_eq
       rw [List.length_append] at lS
       have lY := hY.perm.length_eq
       rw [List.length_drop] at lY
       have hme := hmerge Es.flatten X Y Ys.flatten S (by omega) (by omega) s1 s2 (back_two h2 s p1 p2) hnXY hS1 hS2 (by omega) Es.flatten.length ((Es.flatten.length + s : Nat) : Int) ((Es.flatten.length + 2 * s : Nat) : Int) rfl (by omega) (by omega)
       have r1 : Es.flatten ++ X ++ Y ++ Ys.flatten = Es.flatten ++ (X :: Y :: Ys).flatten := by simp
       have r2 : Es.flatten ++ S ++ Ys.flatten = (Es ++ [S]).flatten ++ Ys.flatten := by simp
       rw [r1, r2] at hme
       have e2 : (Es ++ [S]).flatten.length = Es.flatten.length + 2 * s := by
        have : (Es ++ [S]).flatten = Es.flatten ++ S := by simp
        rw [this, List.length_append]; omega
       have v1 : (Es.flatten.length : Int) + (s : Int) = ((Es.flatten.length + s : Nat) : Int) := by omega
       have v2 : ((Es.flatten.length + 2 * s : Nat) : Int) + 2 * (s : Int) = ((Es.flatten.length + 2 * s + 2 * s : Nat) : Int) := by omega
       repeat' first | refine pw_seq ?_ | refine pw_skip ?_ | refine pw_ret ?_ | refine pw_exit ?_ | refine pw_block ?_ | refine pw_region (fun _ => false) hmix ?_ | refine rcM [] (hme) rfl ?_ | (refine wpG_split rfl rfl (fun hc => ?_) (fun hc => ?_) <;> try simp only [hcL, reduceCtorEq] at hc) | (refine pw_cond _ rfl rfl (fun hc => ?_) (fun hc => ?_) <;> (try simp only [hcL, reduceCtorEq] at hc) <;> try (exfalso; omega)) | simp (maxSteps := 1000000) (disch := omega) only [go_sem, simprocAttr, v1, v2] | apply And.intro | omega | decide +kernel
       refine ⟨(Es ++ [S], Ys, L2.drop (2 * s)), ?_, eL [] _ _ (by refine ⟨?_, ?_⟩ <;> (repeat' first | exact List.forall_mem_nil _ | refine List.forall_mem_cons.2 ⟨(by first | rfl | (simp (disch := omega) only [go_sem, simprocAttr, inL, e2]; first | done | omega | (congr 1; done))), ?_⟩); done), ?_⟩
       ·dsimp only
        refine ⟨fun Fs hF => ?_, hY, h2.sublist (List.drop_sublist _ _), h3.sublist (List.drop_sublist _ _), by rw [e2, List.length_drop]; omega⟩
        have := h1 (S :: Fs) ⟨hS1.trans hXY, hS2, hF⟩
        rw [List.append_assoc]; exact this
       ·dsimp only; rw [List.length_drop]; omega
      ·have v1 : (Es.flatten.length : Int) + (s : Int) = ((Es.flatten.length + s : Nat) : Int) := by omega
       have v3 : (s : Int) * 2 = ((2 * s : Nat) : Int) := by omega
       by_cases hl2 : s < L2.length
       ·obtain ⟨X, Y, Ys, rfl, p1, p2, s1, s2, hY⟩ := h0.two (by omega) (by omega)
        have l1 := p1.length_eq
        have l2 := p2.length_eq
        rw [List.length_take] at l1
        rw [List.length_take, List.length_drop] at l2
        have hXY : (X ++ Y).Perm (L2.take (2 * s)) := by rw [← two_take]; exact p1.append p2
        have hnXY : (X ++ Y).Nodup := hXY.nodup_iff.2 (h3.sublist (List.take_sublist _ _))
        obtain ⟨S, hS1, hS2⟩ := exists_sorted hR hnXY
        have lS := hS1.length_eq
        rw [List.length_append] at lS
        rw [List.drop_of_length_le (by omega)] at hY
        have hYf := hY.nil_flat
        have hme := hmerge Es.flatten X Y [] S (by omega) (by omega) s1 s2 (back_two h2 s p1 p2) hnXY hS1 hS2 (by rw [List.length_nil]; omega) Es.flatten.length ((Es.flatten.length + s : Nat) : Int) N rfl (by omega) (by omega)
        have r1 : Es.flatten ++ X ++ Y ++ [] = Es.flatten ++ (X :: Y :: Ys).flatten := by simp [hYf]
        have r2 : Es.flatten ++ S ++ [] = (Es ++ [S]).flatten := by simp
        rw [r1, r2] at hme
        have hF : Blk R (2 * s) L (Es ++ [S]) := h1 [S] ⟨hS1.trans hXY, hS2, List.drop_of_length_le (by omega)⟩
        repeat' first | refine pw_seq ?_ | refine pw_skip ?_ | refine pw_ret ?_ | refine pw_exit ?_ | refine pw_block ?_ | refine pw_region (fun _ => false) hmix ?_ | refine rcM [] (hme) rfl ?_ | (refine wpG_split rfl rfl (fun hc => ?_) (fun hc => ?_) <;> try simp only [hcL, reduceCtorEq] at hc) | (refine pw_cond _ rfl rfl (fun hc => ?_) (fun hc => ?_) <;> (try simp only [hcL, reduceCtorEq] at hc) <;> try (exfalso; omega)) | simp (maxSteps := 1000000) (disch := omega) only [go_sem, simprocAttr, v1, v3] | apply And.intro | omega | decide +kernel
        refine ⟨(2 * s, Es ++ [S]), ?_, eL [] _ _ (by refine ⟨?_, ?_⟩ <;> (repeat' first | exact List.forall_mem_nil _ | refine List.forall_mem_cons.2 ⟨(by first | rfl | (simp (disch := omega) only [go_sem, simprocAttr, inL]; first | done | omega | (congr 1; done))), ?_⟩); done), ?_⟩
        ·exact ⟨by omega, by omega, hF⟩
        ·dsimp only; omega
       ·have hF := h1 Ds (h0.short (by omega) (by omega))
        have r2 : Es.flatten ++ Ds.flatten = (Es ++ Ds).flatten := by simp
        repeat' first | refine pw_seq ?_ | refine pw_skip ?_ | refine pw_ret ?_ | refine pw_exit ?_ | refine pw_block ?_ | refine pw_region (fun _ => false) hmix ?_ | (refine wpG_split rfl rfl (fun hc => ?_) (fun hc => ?_) <;> try simp only [hcL, reduceCtorEq] at hc) | (refine pw_cond _ rfl rfl (fun hc => ?_) (fun hc => ?_) <;> (try simp only [hcL, reduceCtorEq] at hc) <;> try (exfalso; omega)) | simp (maxSteps := 1000000) (disch := omega) only [go_sem, simprocAttr, v1, v3] | apply And.intro | omega | decide +kernel
        refine ⟨(2 * s, Es ++ Ds), ?_, eL [] _ _ (by refine ⟨?_, ?_⟩ <;> (repeat' first | exact List.forall_mem_nil _ | refine List.forall_mem_cons.2 ⟨(by first | rfl | (simp (disch := omega) only [go_sem, simprocAttr, inL, r2]; first | done | omega | (congr 1; done))), ?_⟩); done), ?_⟩
        ·exact ⟨by omega, by omega, hF⟩
        ·dsimp only; omega
    ·have hfl : Ds.flatten = T := uniq hR (g3.perm.trans hT.symm) (g3.one (by omega)) hTs
     repeat' first | refine pw_seq ?_ | refine pw_skip ?_ | refine pw_ret ?_ | refine pw_exit ?_ | refine pw_block ?_ | refine pw_region (fun _ => false) hmix ?_ | (refine wpG_split rfl rfl (fun hc => ?_) (fun hc => ?_) <;> try simp only [hcL, reduceCtorEq] at hc) | (refine pw_cond _ rfl rfl (fun hc => ?_) (fun hc => ?_) <;> (try simp only [hcL, reduceCtorEq] at hc) <;> try (exfalso; omega)) | simp (maxSteps := 1000000) (disch := omega) only [go_sem, simprocAttr] | apply And.intro | omega | decide +kernel
     refine ⟨_, entL_iff.1 (eL [] [] [(1000, .row 2 (T.map (elD v p)))] (by refine ⟨?_, ?_⟩ <;> (repeat' first | exact List.forall_mem_nil _ | refine List.forall_mem_cons.2 ⟨(by first | rfl | (simp (disch := omega) only [go_sem, simprocAttr, inL, hfl]; first | done | omega | (congr 1; done))), ?_⟩); done)), ?_⟩
     exact ⟨⟨[], rfl, trivial⟩, fmc ⟨rfl, fmn⟩⟩
theorem SortStable_spec (v : Nat → Int) (p : Nat → List D) (g : Nat) (c : Nat → Nat → Int) (R : Nat → Nat → Prop) (hR : Ord R) (hcmp : ∀ j k, CallsTo Tryz.prog g [elD v p j, elD v p k] (.int (c j k)))
  (L T : List Nat) (hb : L.Pairwise (Back c R)) (hnd : L.Nodup) (hT : T.Perm L) (hTs : T.Pairwise R) (hN1 : L.length ≤ 100000) :
  CallsM Tryz.prog 98 [.ref 1000 2 0 L.length L.length, .d (.fn g [])] [(1000, .row 2 (L.map (elD v p)))] (.tup []) [(1000, .row 2 (T.map (elD v p)))] := by
 have h1 := stable_spec v p g c R hR hcmp L T hb hnd hT hTs hN1
 refine callsM_of Tryz.func98 rfl (by decide +kernel) (Nat.le_of_ble_eq_true rfl) rfl (nodup_of rfl) rfl rfl rfl ?_
 intro B0 X0 w0
 refine pw_post ?_
 repeat' first | refine pw_seq ?_ | refine pw_skip ?_ | refine pw_ret ?_ | refine pw_exit ?_ | refine pw_block ?_ | refine pw_region (fun _ => false) hmix ?_ | refine rcM [] (h1) rfl ?_ | (refine wpG_split rfl rfl (fun hc => ?_) (fun hc => ?_) <;> try simp only [hcL, reduceCtorEq] at hc) | (refine pw_cond _ rfl rfl (fun hc => ?_) (fun hc => ?_) <;> (try simp only [hcL, reduceCtorEq] at hc) <;> try (exfalso; omega)) | simp (maxSteps := 1000000) (disch := omega) only [go_sem, simprocAttr] | apply And.intro | omega | decide +kernel
 refine ⟨_, entL_iff.1 (eL [] [] [(1000, .row 2 (T.map (elD v p)))] (by refine ⟨?_, ?_⟩ <;> (repeat' first | exact List.forall_mem_nil _ | refine List.forall_mem_cons.2 ⟨(by first | rfl | (simp (disch := omega) only [go_sem, simprocAttr, inL]; first | done | omega | (congr 1; done))), ?_⟩); done)), ?_⟩
 exact ⟨⟨[], rfl, trivial⟩, fmc ⟨rfl, fmn⟩⟩
end Go.Proofs.YtldbcbclhpcofaaGreat
namespace Go.Proofs.YtldbcbclhpcofaaGreat
open Go Go.PS Go.Proofs
open Go.Bd (sumC Part invC)

def orM (a : Lv) (i : Nat) : List (List Int) := stM a [] (lstN a.2.1 i) 0 i
theorem orM_len (a : Lv) (i : Nat) : (orM a i).length = (lstN a.2.1 i).length := stM_len ..
theorem orM_sum (a : Lv) (i : Nat) {o : List Nat} (ho : Part (lstN a.2.1 i).length 0 o) : sumC (cellAt (orM a i)) o = sumC (bothC a i) o := by
 rw [orM, stM_sum _ _ _ _ _ ho]; omega
theorem orM_ok {a : Lv} {i : Nat} (har : a.2.2.1.length ≤ 700) (h8 : ¬ 8 < (lstN a.2.1 i).length) : okM (orM a i) = true := stM_ok (by decide) har (by omega)
theorem orM_part (a : Lv) (i : Nat) : Part (lstN a.2.1 i).length 0 (bestAll (orM a i)).1 := by
 have := (bestAll_part (orM a i)).1
 rw [orM_len] at this; exact this
def betB (a : Lv) (i : Nat) : Bool := decide ((bestAll (orM a i)).2 < sumC (cellAt (orM a i)) (List.range (lstN a.2.1 i).length))
def betF (a : Lv) (i : Nat) : List Nat × Bool := if 8 < (lstN a.2.1 i).length then ([], false) else ((bestAll (orM a i)).1, betB a i)
def bestPut (a : Lv) (i : Nat) : Lv := putL a i (permL (lstN a.2.1 i) (bestAll (orM a i)).1)
theorem betF_yes {a : Lv} {i : Nat} (h : (betF a i).2 = true) : ¬ 8 < (lstN a.2.1 i).length ∧ betB a i = true := by
 rw [betF] at h
 split at h
 ·cases h
 ·exact ⟨by assumption, h⟩
theorem Kin.arr {a b : Lv} (h : Kin a b) {i : Nat} (hi : i < a.2.1.length) {o : List Nat} (ho : Part (lstN b.2.1 i).length 0 o) : Kin a (putL b i (permL (lstN b.2.1 i) o)) :=
 h.put (h.lay hi) (permL_perm (layer_nodup h.ok (h.lay hi)) ho)
theorem arr_total {a b : Lv} (h : Kin a b) {i : Nat} (hi : i < a.2.1.length) {o : List Nat} (ho : Part (lstN b.2.1 i).length 0 o) :
  TotalF (putL b i (permL (lstN b.2.1 i) o)) - TotalF b = sumC (cellAt (orM b i)) o - sumC (cellAt (orM b i)) (List.range (lstN b.2.1 i).length) := by
 rw [orM_sum _ _ ho, orM_sum _ _ (range_part _)]
 exact put_total h.ok (h.arr hi ho).ok (h.lay hi) ho
theorem bet_kin {a b : Lv} (h : Kin a b) {i : Nat} (hi : i < a.2.1.length) : Kin a (bestPut b i) := h.arr hi (orM_part b i)
theorem bet_less {a b : Lv} (h : Kin a b) {i : Nat} (hi : i < a.2.1.length) (hb : betB b i = true) : TotalF (bestPut b i) < TotalF b := by
 have h1 := arr_total h hi (orM_part b i)
 have h2 := (bestAll_part (orM b i)).2
 rw [betB, decide_eq_true_eq, h2] at hb
 rw [bestPut]; omega
theorem total_nn (a : Lv) : 0 ≤ TotalF a := by
 have := sumZ_bound (f := fun i => BetweenF a i) (c := 360000000000) a.2.1.length fun i _ => BetweenF_le a i
 exact this.1
def refN : Nat → Lv → Nat → Lv
 | 0, b, _ => b
 | f + 1, b, i => if i < b.2.1.length then (if (betF b i).2 then refN f (bestPut b i) 0 else refN f b (i + 1)) else b
def refMs (b : Lv) (i : Nat) : Nat := (TotalF b).toNat * (b.2.1.length + 1) + (b.2.1.length - i)
def refineF (a : Lv) : Lv := refN (refMs a 0) a 0
theorem ms_step {b : Lv} {i : Nat} (h : i < b.2.1.length) : refMs b (i + 1) < refMs b i := by
 simp only [refMs]; omega
theorem ms_put {a b : Lv} (h : Kin a b) {i : Nat} (hi : i < a.2.1.length) (hb : betB b i = true) : refMs (bestPut b i) 0 < refMs b i := by
 have h1 := bet_less h hi hb
 have h2 := total_nn (bestPut b i)
 have h3 : (bestPut b i).2.1.length = b.2.1.length := by rw [(bet_kin h hi).len, h.len]
 have h4 := h.len
 rw [refMs, refMs, h3]
 have h5 : ((TotalF (bestPut b i)).toNat + 1) * (b.2.1.length + 1) ≤ (TotalF b).toNat * (b.2.1.length + 1) := Nat.mul_le_mul_right _ (by omega)
 rw [Nat.add_mul] at h5
 omega
theorem refN_end {f : Nat} {b : Lv} {i : Nat} (h : ¬ i < b.2.1.length) : refN f b i = b := by
 cases f with
 | zero => rfl
 | succ f => rw [refN, if_neg h]
theorem refN_ok {a : Lv} : ∀ (f : Nat) (b : Lv) (i : Nat), Kin a b → refMs b i ≤ f → i ≤ a.2.1.length → (∀ j, j < i → (betF b j).2 = false) →
  Kin a (refN f b i) ∧ TotalF (refN f b i) ≤ TotalF b ∧ ∀ j, j < a.2.1.length → (betF (refN f b i) j).2 = false
 | 0, b, i, h, hm, hi, hj => by
  have h4 := h.len
  simp only [refMs] at hm
  rw [refN]
  exact ⟨h, Int.le_refl _, fun j hlt => hj j (by omega)⟩
 | f + 1, b, i, h, hm, hi, hj => by
  have h4 := h.len
  by_cases hlt : i < b.2.1.length
  ·rw [refN, if_pos hlt]
   rcases hb : (betF b i).2 with _ | _
   ·rw [if_neg (by decide)]
    refine refN_ok f b (i + 1) h (by have := ms_step hlt; omega) (by omega) fun j hlj => ?_
    rcases Nat.lt_or_ge j i with c | c
    ·exact hj j c
    ·obtain rfl : j = i := by omega
     exact hb
   ·rw [if_pos rfl]
    have hb2 := (betF_yes hb).2
    have h5 := ms_put h (by omega) hb2
    have h6 := bet_less h (by omega) hb2
    obtain ⟨g1, g2, g3⟩ := refN_ok f (bestPut b i) 0 (bet_kin h (by omega)) (by omega) (Nat.zero_le _) (fun j hlj => absurd hlj (Nat.not_lt_zero j))
    exact ⟨g1, by omega, g3⟩
  ·rw [refN_end hlt]
   exact ⟨h, Int.le_refl _, fun j hlt2 => hj j (by omega)⟩
theorem refine_ok {a : Lv} (hv : validF a = true) (hw : wide a) : Kin a (refineF a) ∧ TotalF (refineF a) ≤ TotalF a ∧ ∀ j, j < a.2.1.length → (betF (refineF a) j).2 = false :=
 refN_ok _ a 0 (Kin.refl hv hw) (Nat.le_refl _) (Nat.zero_le _) (fun j hlj => absurd hlj (Nat.not_lt_zero j))
def exaF (a : Lv) (i f : Int) : Lv × Int :=
 if matOk a i f = false then (lv0, 1) else if 8 < (lstN a.2.1 i.toNat).length then (lv0, 2) else (putL a i.toNat (permL (lstN a.2.1 i.toNat) (bestAll (MatrixF a i f)).1), 0)
def optF (a : Lv) (i : Int) : Bool := validF a && decide (0 ≤ i ∧ i < a.2.1.length) && decide (¬ 8 < (lstN a.2.1 i.toNat).length) && !betB a i.toNat
theorem matF_len {a : Lv} {i f : Int} (h : matOk a i f = true) : (MatrixF a i f).length = (lstN a.2.1 i.toNat).length := by
 rw [MatrixF, if_pos h]
 simp [matF, endsF, lenAt, lstN]
theorem matF_part {a : Lv} {i f : Int} (h : matOk a i f = true) : Part (lstN a.2.1 i.toNat).length 0 (bestAll (MatrixF a i f)).1 := by
 have := (bestAll_part (MatrixF a i f)).1
 rw [matF_len h] at this; exact this
end Go.Proofs.YtldbcbclhpcofaaGreat
namespace Go.Proofs.YtldbcbclhpcofaaGreat
open Go Go.PS Go.Proofs
open Go.Stb

def plcA (y : List Int) (v : Int) (x : Arc) : List Int := (if x.1 = v ∧ 0 ≤ placeF y x.2 then [placeF y x.2] else []) ++ (if x.2 = v ∧ 0 ≤ placeF y x.1 then [placeF y x.1] else [])
def plcF (y : List Int) (ar : List Arc) (v : Int) : List Int := ar.flatMap (plcA y v)
theorem plcF_len (y : List Int) (v : Int) : ∀ ar : List Arc, (plcF y ar v).length ≤ 2 * ar.length
 | [] => by simp [plcF]
 | x :: ar => by
  have ih := plcF_len y v ar
  have : (plcA y v x).length ≤ 2 := by
   rw [plcA]; split <;> split <;> simp
  rw [plcF] at ih ⊢
  rw [List.flatMap_cons, List.length_append, List.length_cons]; omega
def downP (p : Nat → List Int) (T : List Nat) (k : Nat) : Nat → Nat
 | 0 => 0
 | n + 1 => if 0 < cmpP (p ((T[n]?).getD 0)) (p k) then downP p T k n else n + 1
def insP (p : Nat → List Int) (T : List Nat) (k : Nat) : List Nat := T.take (downP p T k T.length) ++ k :: T.drop (downP p T k T.length)
def sortP (p : Nat → List Int) (l : List Nat) : List Nat := l.foldl (insP p) []
theorem downP_le (p : Nat → List Int) (T : List Nat) (k : Nat) : ∀ n, downP p T k n ≤ n
 | 0 => Nat.le_refl _
 | n + 1 => by rw [downP]; have := downP_le p T k n; split <;> omega
theorem insP_perm (p : Nat → List Int) (T : List Nat) (k : Nat) : (insP p T k).Perm (k :: T) := by
 rw [insP]
 refine List.perm_middle.trans ?_
 rw [List.take_append_drop]
theorem downP_low (p : Nat → List Int) (T : List Nat) (k : Nat) : ∀ n, 0 < downP p T k n → ¬ 0 < cmpP (p ((T[downP p T k n - 1]?).getD 0)) (p k)
 | 0, h => by rw [downP] at h; omega
 | n + 1, h => by
  rw [downP] at h ⊢
  split
  ·rename_i c
   rw [if_pos c] at h
   exact downP_low p T k n h
  ·rename_i c
   exact c
theorem downP_high (p : Nat → List Int) (T : List Nat) (k : Nat) : ∀ n, downP p T k n < n → 0 < cmpP (p ((T[downP p T k n]?).getD 0)) (p k)
 | 0, h => by omega
 | n + 1, h => by
  rw [downP] at h ⊢
  split
  ·rename_i c
   rw [if_pos c] at h
   by_cases c2 : downP p T k n < n
   ·exact downP_high p T k n c2
   ·have := downP_le p T k n
    have : downP p T k n = n := by omega
    rw [this]; exact c
  ·rename_i c
   rw [if_neg c] at h; omega
theorem insP_sorted {p : Nat → List Int} {T : List Nat} {k : Nat} (hs : T.Pairwise (ordP p)) (hk : ∀ j, j ∈ T → j < k) : (insP p T k).Pairwise (ordP p) := by
 have hle := downP_le p T k T.length
 refine put_sorted (ordP_ord p) hle hs (fun x h0 hx => ?_) (fun x hx => ?_)
 ·have := downP_low p T k T.length h0
  rw [hx, Option.getD_some] at this
  exact .inr ⟨fun h => this (by have := cmpP_anti (p x) (p k); omega), hk x (List.mem_of_getElem? hx)⟩
 ·have h1 := (List.getElem?_eq_some_iff.1 hx).1
  have := downP_high p T k T.length h1
  rw [hx, Option.getD_some] at this
  exact .inl (by have := cmpP_anti (p k) (p x); omega)
theorem sortP_perm (p : Nat → List Int) (l : List Nat) : (sortP p l).Perm l := by
 have : ∀ (l T : List Nat), (l.foldl (insP p) T).Perm (l ++ T) := by
  intro l
  induction l with
  | nil => intro T; exact List.Perm.refl _
  | cons k l ih =>
   intro T
   rw [List.foldl_cons]
   refine (ih _).trans (((insP_perm p T k).append_left l).trans ?_)
   exact List.perm_middle
 have h := this l []
 rw [List.append_nil] at h; exact h
theorem sortP_sorted {p : Nat → List Int} {l : List Nat} (hl : l.Pairwise (· < ·)) : (sortP p l).Pairwise (ordP p) := by
 have : ∀ (l T : List Nat), T.Pairwise (ordP p) → l.Pairwise (· < ·) → (∀ j, j ∈ T → ∀ k, k ∈ l → j < k) → (l.foldl (insP p) T).Pairwise (ordP p) := by
  intro l
  induction l with
  | nil => intro T h _ _; exact h
  | cons k l ih =>
   intro T h1 h2 h3
   rw [List.pairwise_cons] at h2
   rw [List.foldl_cons]
   refine ih _ (insP_sorted h1 fun j hj => h3 j hj k (by simp)) h2.2 fun j hj q hq => ?_
   rcases List.mem_cons.1 ((insP_perm p T k).mem_iff.1 hj) with rfl | hj
   ·exact h2.1 q hq
   ·exact h3 j hj q (List.mem_cons_of_mem _ hq)
 exact this l [] List.Pairwise.nil hl (fun j hj => by cases hj)
def hasN (y z : List Int) (ar : List Arc) (k : Nat) : Bool := !(plcF z ar (at0 y k)).isEmpty
def freeN (y z : List Int) (ar : List Arc) (n : Nat) : List Nat := (List.range n).filter (hasN y z ar)
def sortB (y z : List Int) (ar : List Arc) : List Nat := sortP (fun k => plcF z ar (at0 y k)) (freeN y z ar y.length)
def ordB (y z : List Int) (ar : List Arc) : List Int := (List.range y.length).map fun k => if hasN y z ar k then at0 y (((sortB y z ar)[(freeN y z ar k).length]?).getD 0 : Nat) else at0 y k
theorem freeN_succ (y z : List Int) (ar : List Arc) (n : Nat) : freeN y z ar (n + 1) = if hasN y z ar n then freeN y z ar n ++ [n] else freeN y z ar n := by
 rw [freeN, List.range_succ, List.filter_append, List.filter_cons, List.filter_nil]
 split <;> simp [freeN]
theorem freeN_inc (y z : List Int) (ar : List Arc) (n : Nat) : (freeN y z ar n).Pairwise (· < ·) := List.Pairwise.filter _ List.pairwise_lt_range
theorem freeN_lt {y z : List Int} {ar : List Arc} {n k : Nat} (h : k ∈ freeN y z ar n) : k < n ∧ hasN y z ar k = true := by
 rw [freeN, List.mem_filter, List.mem_range] at h; exact h
theorem freeN_at {y z : List Int} {ar : List Arc} : ∀ {n k : Nat}, k < n → hasN y z ar k = true → (freeN y z ar n)[(freeN y z ar k).length]? = some k
 | 0, _, h, _ => by omega
 | n + 1, k, h, hk => by
  rcases Nat.lt_or_ge k n with c | c
  ·have ih := freeN_at c hk
   rw [freeN_succ]
   split
   ·rw [List.getElem?_append_left (List.getElem?_eq_some_iff.1 ih).1]; exact ih
   ·exact ih
  ·have : k = n := by omega
   subst this
   rw [freeN_succ, if_pos hk, List.getElem?_append_right (Nat.le_refl _), Nat.sub_self]; rfl
theorem sortB_perm (y z : List Int) (ar : List Arc) : (sortB y z ar).Perm (freeN y z ar y.length) := sortP_perm _ _
theorem sortB_len (y z : List Int) (ar : List Arc) : (sortB y z ar).length = (freeN y z ar y.length).length := (sortB_perm y z ar).length_eq
def ordO (y z : List Int) (ar : List Arc) : List Nat := (List.range y.length).map fun k => if hasN y z ar k then ((sortB y z ar)[(freeN y z ar k).length]?).getD 0 else k
theorem ordB_eq (y z : List Int) (ar : List Arc) : ordB y z ar = permL y (ordO y z ar) := by
 rw [ordB, permL, ordO, List.map_map]
 refine List.map_congr_left fun k _ => ?_
 simp only [Function.comp_apply, at0, Int.toNat_natCast]
 split <;> rfl
theorem sortB_at {y z : List Int} {ar : List Arc} {k : Nat} (hk : k < y.length) (h : hasN y z ar k = true) :
  ∃ t, (sortB y z ar)[(freeN y z ar k).length]? = some t ∧ t < y.length ∧ hasN y z ar t = true := by
 have h1 := (List.getElem?_eq_some_iff.1 (freeN_at hk h)).1
 rw [← sortB_len] at h1
 obtain ⟨t, ht⟩ := get_some h1
 have h2 := (sortB_perm y z ar).mem_iff.1 (List.mem_of_getElem? ht)
 exact ⟨t, ht, freeN_lt h2⟩
theorem nodup_get {l : List Nat} (hn : l.Nodup) {i j x : Nat} (hi : l[i]? = some x) (hj : l[j]? = some x) : i = j := by
 obtain ⟨i1, e1⟩ := List.getElem?_eq_some_iff.1 hi
 obtain ⟨j1, e2⟩ := List.getElem?_eq_some_iff.1 hj
 have hp := List.pairwise_iff_getElem.1 hn
 rcases Nat.lt_trichotomy i j with h | h | h
 ·exact absurd (e1.trans e2.symm) (hp i j i1 j1 h)
 ·exact h
 ·exact absurd (e2.trans e1.symm) (hp j i j1 i1 h)
theorem sortB_nodup (y z : List Int) (ar : List Arc) : (sortB y z ar).Nodup :=
 (sortB_perm y z ar).nodup_iff.2 ((freeN_inc y z ar y.length).imp fun h => Nat.ne_of_lt h)
theorem freeN_inj {y z : List Int} {ar : List Arc} {j k n : Nat} (hj : j < n) (hk : k < n) (h1 : hasN y z ar j = true) (h2 : hasN y z ar k = true) (he : (freeN y z ar j).length = (freeN y z ar k).length) : j = k := by
 have e1 := freeN_at hj h1
 have e2 := freeN_at hk h2
 rw [he, e2, Option.some.injEq] at e1
 exact e1.symm
theorem ordO_part (y z : List Int) (ar : List Arc) : Go.Bd.Part y.length 0 (ordO y z ar) := by
 refine ⟨?_, fun v hv => ?_, by simp [ordO]⟩
 ·rw [ordO, List.nodup_iff_pairwise_ne, List.pairwise_map]
  refine List.Pairwise.imp_of_mem (R := (· < ·)) (fun {j k} hj hk hlt => ?_) List.pairwise_lt_range
  rw [List.mem_range] at hj hk
  rcases c1 : hasN y z ar j with _ | _ <;> rcases c2 : hasN y z ar k with _ | _ <;> simp only [if_true, if_false, Bool.false_eq_true]
  ·omega
  ·obtain ⟨t, h1, h2, h3⟩ := sortB_at hk c2
   rw [h1, Option.getD_some]
   rintro rfl
   rw [c1] at h3; cases h3
  ·obtain ⟨t, h1, h2, h3⟩ := sortB_at hj c1
   rw [h1, Option.getD_some]
   rintro rfl
   rw [c2] at h3; cases h3
  ·obtain ⟨t, h1, h2, h3⟩ := sortB_at hj c1
   obtain ⟨u, g1, g2, g3⟩ := sortB_at hk c2
   rw [h1, g1, Option.getD_some, Option.getD_some]
   rintro rfl
   have := nodup_get (sortB_nodup y z ar) h1 g1
   have := freeN_inj hj hk c1 c2 this
   omega
 ·obtain ⟨k, hk, rfl⟩ := List.mem_map.1 hv
  rw [List.mem_range] at hk
  rcases c1 : hasN y z ar k with _ | _ <;> simp only [if_true, if_false, Bool.false_eq_true]
  ·exact hk
  ·obtain ⟨t, h1, h2, h3⟩ := sortB_at hk c1
   rw [h1]; exact h2
theorem ordB_perm {y : List Int} (hn : y.Nodup) (z : List Int) (ar : List Arc) : (ordB y z ar).Perm y := by
 rw [ordB_eq]; exact permL_perm hn (ordO_part y z ar)
theorem ordB_len (y z : List Int) (ar : List Arc) : (ordB y z ar).length = y.length := by simp [ordB]
def layB (b : Lv) (i f : Nat) : Lv := putL b i (ordB (lstN b.2.1 i) (lstN b.2.1 f) b.2.2.1)
theorem layB_kin {a b : Lv} (h : Kin a b) {i : Nat} (hi : i < a.2.1.length) (f : Nat) : Kin a (layB b i f) :=
 h.put (h.lay hi) (ordB_perm (layer_nodup h.ok (h.lay hi)) _ _)
def dwnB (b : Lv) : Nat → Lv
 | 0 => b
 | k + 1 => layB (dwnB b k) (k + 1) k
def upB (b : Lv) (n : Nat) : Nat → Lv
 | 0 => b
 | k + 1 => layB (upB b n k) (n - 2 - k) (n - 1 - k)
def swB (b : Lv) : Lv := upB (dwnB b (b.2.1.length - 1)) b.2.1.length (b.2.1.length - 1)
theorem dwnB_kin {a b : Lv} (h : Kin a b) : ∀ k, k ≤ a.2.1.length - 1 → Kin a (dwnB b k)
 | 0, _ => h
 | k + 1, hk => layB_kin (dwnB_kin h k (by omega)) (by omega) k
theorem upB_kin {a b : Lv} (h : Kin a b) : ∀ k, k ≤ a.2.1.length - 1 → Kin a (upB b a.2.1.length k)
 | 0, _ => h
 | k + 1, hk => layB_kin (upB_kin h k (by omega)) (by omega) _
theorem swB_kin {a b : Lv} (h : Kin a b) : Kin a (swB b) := by
 rw [swB, h.len]
 exact upB_kin (dwnB_kin h _ (Nat.le_refl _)) _ (Nat.le_refl _)
def nowB (a : Lv) : Nat → Lv
 | 0 => a
 | k + 1 => swB (nowB a k)
def bstB (a : Lv) : Nat → Lv
 | 0 => a
 | k + 1 => if TotalF (nowB a (k + 1)) < TotalF (bstB a k) then nowB a (k + 1) else bstB a k
theorem nowB_kin {a : Lv} (hv : validF a = true) (hw : wide a) : ∀ k, Kin a (nowB a k)
 | 0 => Kin.refl hv hw
 | k + 1 => swB_kin (nowB_kin hv hw k)
theorem bstB_kin {a : Lv} (hv : validF a = true) (hw : wide a) : ∀ k, Kin a (bstB a k)
 | 0 => Kin.refl hv hw
 | k + 1 => by
  rw [bstB]
  split
  ·exact nowB_kin hv hw (k + 1)
  ·exact bstB_kin hv hw k
theorem bstB_step (a : Lv) (k : Nat) : TotalF (bstB a (k + 1)) ≤ TotalF (bstB a k) := by
 rw [bstB]; split <;> omega
theorem bstB_le (a : Lv) : ∀ k, TotalF (bstB a k) ≤ TotalF a
 | 0 => Int.le_refl _
 | k + 1 => Int.le_trans (bstB_step a k) (bstB_le a k)
def rndB (r : Int) : Nat := (min (max r 0) 100).toNat
def brnF (a : Lv) (r : Int) : Lv × Int := if validF a then (bstB a (rndB r), TotalF (bstB a (rndB r))) else (lv0, 0)
theorem matOk_in {a : Lv} {i f : Int} (h : matOk a i f = true) : validF a = true ∧ (0 ≤ i ∧ i < a.2.1.length) ∧ (0 ≤ f ∧ f < a.2.1.length) ∧ (f = i - 1 ∨ f = i + 1) := by
 simp only [matOk, Bool.and_eq_true, decide_eq_true_eq] at h
 obtain ⟨⟨⟨h1, h2⟩, h3⟩, h4⟩ := h
 exact ⟨h1, h2, h3, h4⟩
end Go.Proofs.YtldbcbclhpcofaaGreat
namespace Go.Proofs.YtldbcbclhpcofaaGreat
open Go Go.PS Go.Proofs
open Go.Stb
set_option maxRecDepth 100000
attribute [local irreducible] wpRun wpG CallsTo CallsM

def okP1 (x : Int) : Bool := decide (0 ≤ x ∧ x ≤ 1048576)
theorem okPl_eq (l : List Int) : okPl l = (decide (l.length ≤ 4096) && l.all okP1) := rfl
theorem bsum_bound {l : List Int} (h : ∀ x, x ∈ l → okP1 x = true) : 0 ≤ l.sum ∧ l.sum ≤ ((l.length * 1048576 : Nat) : Int) :=
 isum_bound fun x hx => by
  have := h x hx
  rw [okP1, decide_eq_true_eq] at this
  exact this
theorem sum_snoc {l : List Int} {k : Nat} {x : Int} (h : l[k]? = some x) : (l.take (k + 1)).sum = (l.take k).sum + x := by
 rw [take_snoc h, List.sum_append]; simp
theorem all_at {l : List Int} {k : Nat} {x : Int} (h : l[k]? = some x) (hx : okP1 x = false) : l.all okP1 = false := by
 rw [List.all_eq_false]
 exact ⟨x, List.mem_of_getElem? h, by rw [hx]; decide⟩
theorem all_take {l : List Int} (h : ∀ x, x ∈ l.take l.length → okP1 x = true) : l.all okP1 = true := by
 rw [List.take_length] at h
 rw [List.all_eq_true]; exact h
set_option maxHeartbeats 1000000 in
theorem bsum_spec (l : List Int) : CallsTo Tryz.prog 106 [intsD l] (.tup [.int (sumP l), .int (cntP l)]) := by
 rw [sumP, cntP, okPl_eq]
 refine callsTo_of Tryz.func106 rfl (by decide +kernel) (Nat.le_of_ble_eq_true rfl) ?_
 intro hat B X w0
 by_cases hl : l.length ≤ 4096
 ·repeat' first | refine pw_seq ?_ | refine pw_skip ?_ | refine pw_ret ?_ | refine pw_exit ?_ | refine pw_block ?_ | refine pw_region (fun _ => false) hmix ?_ | (refine wpG_split rfl rfl (fun hc => ?_) (fun hc => ?_) <;> try simp only [hcL, reduceCtorEq] at hc) | (refine pw_cond _ rfl rfl (fun hc => ?_) (fun hc => ?_) <;> (try simp only [hcL, reduceCtorEq] at hc) <;> try (exfalso; omega)) | simp (maxSteps := 1000000) (disch := omega) only [go_sem, simprocAttr] | apply And.intro | omega | decide +kernel
  refine pw_loopI (κ := Nat) (fun (k : Nat) => k ≤ l.length ∧ (∀ x, x ∈ l.take k → okP1 x = true)) (fun (k : Nat) => [(0, .d (intsD l)), (4, .int (l.take k).sum), (10, .d (intsD l)), (11, .int l.length), (12, .int k)]) (fun (k : Nat) => []) (fun (k : Nat) => l.length - k) 0 ?_ ?_ ?_
  ·exact ⟨Nat.zero_le _, fun x hx => by rw [List.take_zero] at hx; cases hx⟩
  ·exact eL [] _ _ (by refine ⟨?_, ?_⟩ <;> (repeat' first | exact List.forall_mem_nil _ | refine List.forall_mem_cons.2 ⟨(by first | rfl | (simp (disch := omega) only [go_sem, simprocAttr, inL, List.take_zero, List.sum_nil]; first | done | omega | (congr 1; done))), ?_⟩); done)
  ·rintro k ⟨hk, hinv⟩
   have hb := bsum_bound hinv
   rw [List.length_take, Nat.min_eq_left hk] at hb
   rcases Nat.lt_or_ge k l.length with hlt | hge
   ·obtain ⟨x, hx⟩ := get_some hlt
    have e1 := sum_snoc hx
    by_cases c : 0 ≤ x ∧ x ≤ 1048576
    ·obtain ⟨c1, c2⟩ := c
     repeat' first | refine pw_seq ?_ | refine pw_skip ?_ | refine pw_ret ?_ | refine pw_exit ?_ | refine pw_block ?_ | refine pw_region (fun _ => false) hmix ?_ | (refine wpG_split rfl rfl (fun hc => ?_) (fun hc => ?_) <;> try simp only [hcL, reduceCtorEq] at hc) | (refine pw_cond _ rfl rfl (fun hc => ?_) (fun hc => ?_) <;> (try simp only [hcL, reduceCtorEq] at hc) <;> try (exfalso; omega)) | simp (maxSteps := 1000000) (disch := omega) only [go_sem, simprocAttr, hx] | apply And.intro | omega | decide +kernel
     refine ⟨k + 1, ?_, eL [] _ _ (by refine ⟨?_, ?_⟩ <;> (repeat' first | exact List.forall_mem_nil _ | refine List.forall_mem_cons.2 ⟨(by first | rfl | (simp (disch := omega) only [go_sem, simprocAttr, inL, e1]; first | done | omega | (congr 1; done))), ?_⟩); done), ?_⟩
     ·refine ⟨by omega, fun y hy => ?_⟩
      rw [take_snoc hx] at hy
      rcases List.mem_append.1 hy with hy | hy
      ·exact hinv y hy
      ·rw [List.mem_singleton.1 hy, okP1, decide_eq_true ⟨c1, c2⟩]
     ·omega
    ·rw [all_at hx (by rw [okP1, decide_eq_false c]), Bool.and_false, if_neg (by decide), if_neg (by decide)]
     repeat' first | refine pw_seq ?_ | refine pw_skip ?_ | refine pw_ret ?_ | refine pw_exit ?_ | refine pw_block ?_ | refine pw_region (fun _ => false) hmix ?_ | (refine wpG_split rfl rfl (fun hc => ?_) (fun hc => ?_) <;> try simp only [hcL, reduceCtorEq] at hc) | (refine pw_cond _ rfl rfl (fun hc => ?_) (fun hc => ?_) <;> (try simp only [hcL, reduceCtorEq] at hc) <;> try (exfalso; omega)) | simp (maxSteps := 1000000) (disch := omega) only [go_sem, simprocAttr, hx] | apply And.intro | omega | decide +kernel
     all_goals exact ⟨_, rfl, int_some rfl, int_some rfl, trivial⟩
   ·have : k = l.length := by omega
    subst this
    rw [all_take hinv, decide_eq_true hl, Bool.true_and, if_pos rfl, if_pos rfl]
    repeat' first | refine pw_seq ?_ | refine pw_skip ?_ | refine pw_ret ?_ | refine pw_exit ?_ | refine pw_block ?_ | refine pw_region (fun _ => false) hmix ?_ | (refine wpG_split rfl rfl (fun hc => ?_) (fun hc => ?_) <;> try simp only [hcL, reduceCtorEq] at hc) | (refine pw_cond _ rfl rfl (fun hc => ?_) (fun hc => ?_) <;> (try simp only [hcL, reduceCtorEq] at hc) <;> try (exfalso; omega)) | simp (maxSteps := 1000000) (disch := omega) only [go_sem, simprocAttr] | apply And.intro | omega | decide +kernel
    refine ⟨_, rfl, int_some ?_, int_some rfl, trivial⟩
    rw [List.take_length]
 ·rw [decide_eq_false hl, Bool.false_and, if_neg (by decide), if_neg (by decide)]
  have hl2 := at_len 0 hat rfl
  rw [List.length_map] at hl2
  repeat' first | refine pw_seq ?_ | refine pw_skip ?_ | refine pw_ret ?_ | refine pw_exit ?_ | refine pw_block ?_ | refine pw_region (fun _ => false) hmix ?_ | (refine wpG_split rfl rfl (fun hc => ?_) (fun hc => ?_) <;> try simp only [hcL, reduceCtorEq] at hc) | (refine pw_cond _ rfl rfl (fun hc => ?_) (fun hc => ?_) <;> (try simp only [hcL, reduceCtorEq] at hc) <;> try (exfalso; omega)) | simp (maxSteps := 1000000) (disch := omega) only [go_sem, simprocAttr] | apply And.intro | omega | decide +kernel
  exact ⟨_, rfl, int_some rfl, int_some rfl, trivial⟩
theorem isNaN_spec (a : Int) : CallsTo Tryz.prog 123 [.int a] (.bool false) := by
 refine callsTo_of Tryz.func123 rfl (by decide +kernel) (Nat.le_of_ble_eq_true rfl) ?_
 intro hat B X w0
 repeat' first | refine pw_seq ?_ | refine pw_skip ?_ | refine pw_ret ?_ | refine pw_exit ?_ | refine pw_block ?_ | refine pw_region (fun _ => false) hmix ?_ | (refine wpG_split rfl rfl (fun hc => ?_) (fun hc => ?_) <;> try simp only [hcL, reduceCtorEq] at hc) | (refine pw_cond _ rfl rfl (fun hc => ?_) (fun hc => ?_) <;> (try simp only [hcL, reduceCtorEq] at hc) <;> try (exfalso; omega)) | simp (maxSteps := 1000000) (disch := omega) only [go_sem, simprocAttr] | apply And.intro | omega | decide +kernel
 exact bool_some (by simp)
theorem compare_spec (a b : Int) : CallsTo Tryz.prog 107 [.int a, .int b] (.int (sg a b)) := by
 have h1 := isNaN_spec a
 have h2 := isNaN_spec b
 rw [sg]
 refine callsTo_of Tryz.func107 rfl (by decide +kernel) (Nat.le_of_ble_eq_true rfl) ?_
 intro hat B X w0
 by_cases c1 : a < b
 ·rw [if_pos c1]
  repeat' first | refine pw_seq ?_ | refine pw_skip ?_ | refine pw_ret ?_ | refine pw_exit ?_ | refine pw_block ?_ | refine pw_region (fun _ => false) hmix ?_ | (refine rc (h1) rfl ?_ ?_; (· first | rfl | (simp (disch := omega) only [go_sem, simprocAttr, c1]; done))) | (refine rc (h2) rfl ?_ ?_; (· first | rfl | (simp (disch := omega) only [go_sem, simprocAttr, c1]; done))) | (refine wpG_split rfl rfl (fun hc => ?_) (fun hc => ?_) <;> try simp only [hcL, reduceCtorEq] at hc) | (refine pw_cond _ rfl rfl (fun hc => ?_) (fun hc => ?_) <;> (try simp only [hcL, reduceCtorEq] at hc) <;> try (exfalso; omega)) | simp (maxSteps := 1000000) (disch := omega) only [go_sem, simprocAttr, c1] | apply And.intro | omega | decide +kernel
  exact int_some rfl
 ·rw [if_neg c1]
  by_cases c2 : b < a
  ·rw [if_pos c2]
   repeat' first | refine pw_seq ?_ | refine pw_skip ?_ | refine pw_ret ?_ | refine pw_exit ?_ | refine pw_block ?_ | refine pw_region (fun _ => false) hmix ?_ | (refine rc (h1) rfl ?_ ?_; (· first | rfl | (simp (disch := omega) only [go_sem, simprocAttr, c1, c2]; done))) | (refine rc (h2) rfl ?_ ?_; (· first | rfl | (simp (disch := omega) only [go_sem, simprocAttr, c1, c2]; done))) | (refine wpG_split rfl rfl (fun hc => ?_) (fun hc => ?_) <;> try simp only [hcL, reduceCtorEq] at hc) | (refine pw_cond _ rfl rfl (fun hc => ?_) (fun hc => ?_) <;> (try simp only [hcL, reduceCtorEq] at hc) <;> try (exfalso; omega)) | simp (maxSteps := 1000000) (disch := omega) only [go_sem, simprocAttr, c1, c2] | apply And.intro | omega | decide +kernel
   exact int_some rfl
  ·rw [if_neg c2]
   repeat' first | refine pw_seq ?_ | refine pw_skip ?_ | refine pw_ret ?_ | refine pw_exit ?_ | refine pw_block ?_ | refine pw_region (fun _ => false) hmix ?_ | (refine rc (h1) rfl ?_ ?_; (· first | rfl | (simp (disch := omega) only [go_sem, simprocAttr, c1, c2]; done))) | (refine rc (h2) rfl ?_ ?_; (· first | rfl | (simp (disch := omega) only [go_sem, simprocAttr, c1, c2]; done))) | (refine wpG_split rfl rfl (fun hc => ?_) (fun hc => ?_) <;> try simp only [hcL, reduceCtorEq] at hc) | (refine pw_cond _ rfl rfl (fun hc => ?_) (fun hc => ?_) <;> (try simp only [hcL, reduceCtorEq] at hc) <;> try (exfalso; omega)) | simp (maxSteps := 1000000) (disch := omega) only [go_sem, simprocAttr, c1, c2] | apply And.intro | omega | decide +kernel
   exact int_some rfl
theorem min_one (n : Nat) : (if (1 : Int) < n then (1 : Int) else (n : Int)) = ((min n 1 : Nat) : Int) := by split <;> omega
set_option maxHeartbeats 1000000 in
theorem bCompare_spec (a b : List Int) : CallsTo Tryz.prog 100 [intsD a, intsD b] (.int (cmpP a b)) := by
 have h1 := bsum_spec a
 have h2 := bsum_spec b
 have h4 := compare_spec (sumP a * cntP b) (sumP b * cntP a)
 have p1 := prodP_le a b
 have p2 := prodP_le b a
 rw [cmpP]
 have m1 := min_one (cntP a)
 have m2 := min_one (cntP b)
 have z0 : ((min 0 1 : Nat) : Int) = 0 := rfl
 generalize sumP a = S at *
 generalize sumP b = T at *
 generalize cntP a = j at *
 generalize cntP b = k at *
 refine callsTo_of Tryz.func100 rfl (by decide +kernel) (Nat.le_of_ble_eq_true rfl) ?_
 intro hat B X w0
 by_cases c1 : j = 0
 ·rw [if_pos (.inl c1), c1, z0]
  rw [c1] at h1
  have h3 := compare_spec 0 ((min k 1 : Nat) : Int)
  have q1 : ((0 : Nat) : Int) = 0 := rfl
  repeat' first | refine pw_seq ?_ | refine pw_skip ?_ | refine pw_ret ?_ | refine pw_exit ?_ | refine pw_block ?_ | refine pw_region (fun _ => false) hmix ?_ | (refine rc (h1) rfl ?_ ?_; (· first | rfl | (simp (disch := omega) only [go_sem, simprocAttr, q1, m2]; done))) | (refine rc (h2) rfl ?_ ?_; (· first | rfl | (simp (disch := omega) only [go_sem, simprocAttr, q1, m2]; done))) | (refine rc (h3) rfl ?_ ?_; (· first | rfl | (simp (disch := omega) only [go_sem, simprocAttr, q1, m2]; done))) | (refine wpG_split rfl rfl (fun hc => ?_) (fun hc => ?_) <;> try simp only [hcL, reduceCtorEq] at hc) | (refine pw_cond _ rfl rfl (fun hc => ?_) (fun hc => ?_) <;> (try simp only [hcL, reduceCtorEq] at hc) <;> try (exfalso; omega)) | simp (maxSteps := 1000000) (disch := omega) only [go_sem, simprocAttr, q1, m2] | apply And.intro | omega | decide +kernel
  exact int_some rfl
 ·by_cases c2 : k = 0
  ·rw [if_pos (.inr c2), c2, z0]
   rw [c2] at h2
   have h3 := compare_spec ((min j 1 : Nat) : Int) 0
   have q1 : ((0 : Nat) : Int) = 0 := rfl
   have c1I : ¬ (j : Int) = 0 := by omega
   repeat' first | refine pw_seq ?_ | refine pw_skip ?_ | refine pw_ret ?_ | refine pw_exit ?_ | refine pw_block ?_ | refine pw_region (fun _ => false) hmix ?_ | (refine rc (h1) rfl ?_ ?_; (· first | rfl | (simp (disch := omega) only [go_sem, simprocAttr, q1, m1, c1I]; done))) | (refine rc (h2) rfl ?_ ?_; (· first | rfl | (simp (disch := omega) only [go_sem, simprocAttr, q1, m1, c1I]; done))) | (refine rc (h3) rfl ?_ ?_; (· first | rfl | (simp (disch := omega) only [go_sem, simprocAttr, q1, m1, c1I]; done))) | (refine wpG_split rfl rfl (fun hc => ?_) (fun hc => ?_) <;> try simp only [hcL, reduceCtorEq] at hc) | (refine pw_cond _ rfl rfl (fun hc => ?_) (fun hc => ?_) <;> (try simp only [hcL, reduceCtorEq] at hc) <;> try (exfalso; omega)) | simp (maxSteps := 1000000) (disch := omega) only [go_sem, simprocAttr, q1, m1, c1I] | apply And.intro | omega | decide +kernel
   exact int_some rfl
  ·rw [if_neg (by omega)]
   repeat' first | refine pw_seq ?_ | refine pw_skip ?_ | refine pw_ret ?_ | refine pw_exit ?_ | refine pw_block ?_ | refine pw_region (fun _ => false) hmix ?_ | (refine rc (h1) rfl ?_ ?_; (· first | rfl | (simp (disch := omega) only [go_sem, simprocAttr]; done))) | (refine rc (h2) rfl ?_ ?_; (· first | rfl | (simp (disch := omega) only [go_sem, simprocAttr]; done))) | (refine rc (h4) rfl ?_ ?_; (· first | rfl | (simp (disch := omega) only [go_sem, simprocAttr]; done))) | (refine wpG_split rfl rfl (fun hc => ?_) (fun hc => ?_) <;> try simp only [hcL, reduceCtorEq] at hc) | (refine pw_cond _ rfl rfl (fun hc => ?_) (fun hc => ?_) <;> (try simp only [hcL, reduceCtorEq] at hc) <;> try (exfalso; omega)) | simp (maxSteps := 1000000) (disch := omega) only [go_sem, simprocAttr] | apply And.intro | omega | decide +kernel
   exact int_some rfl
theorem bless_spec (u v : Int) (a b : List Int) : CallsTo Tryz.prog 99 [.ag [.int u, intsD a], .ag [.int v, intsD b]] (.int (cmpP a b)) := by
 have h1 := bCompare_spec a b
 refine callsTo_of Tryz.func99 rfl (by decide +kernel) (Nat.le_of_ble_eq_true rfl) ?_
 intro hat B X w0
 repeat' first | refine pw_seq ?_ | refine pw_skip ?_ | refine pw_ret ?_ | refine pw_exit ?_ | refine pw_block ?_ | refine pw_region (fun _ => false) hmix ?_ | (refine rc (h1) rfl ?_ ?_; (· first | rfl | (simp (disch := omega) only [go_sem, simprocAttr]; done))) | (refine wpG_split rfl rfl (fun hc => ?_) (fun hc => ?_) <;> try simp only [hcL, reduceCtorEq] at hc) | (refine pw_cond _ rfl rfl (fun hc => ?_) (fun hc => ?_) <;> (try simp only [hcL, reduceCtorEq] at hc) <;> try (exfalso; omega)) | simp (maxSteps := 1000000) (disch := omega) only [go_sem, simprocAttr] | apply And.intro | omega | decide +kernel
 exact int_some rfl
/-! The reference. -/
end Go.Proofs.YtldbcbclhpcofaaGreat
namespace Go.Proofs.YtldbcbclhpcofaaGreat
open Go Go.PS Go.Proofs
open Go.Stb
set_option maxRecDepth 100000
attribute [local irreducible] wpRun wpG CallsTo CallsM

theorem valid_range {a : Lv} (h : validF a = true) {v : Int} (hv : v ∈ a.2.1.flatten) : 0 ≤ v ∧ v < tot a.2.1 := by
 obtain ⟨_, _, hr⟩ := valid_built h
 obtain ⟨_, _, hg, _⟩ := ranks_ok hr
 exact (good_iff.1 hg).1 v hv
theorem arc_facts {a : Lv} (h : validF a = true) {x : Arc} (hx : x ∈ a.2.2.1) : x.1 ≠ x.2 ∧ (0 ≤ x.1 ∧ x.1 < tot a.2.1) ∧ (0 ≤ x.2 ∧ x.2 < tot a.2.1) := by
 obtain ⟨k, hk⟩ := List.getElem?_of_mem hx
 obtain ⟨r, p, q, h1, h2⟩ := valid_joins h hk
 refine ⟨fun e => ?_, valid_range h h1.mem, valid_range h h2.mem⟩
 rw [← e] at h2
 have := Lies.layer (valid_nodup h) h1 h2
 omega
theorem plcF_snoc {z : List Int} {ar : List Arc} {v : Int} {k : Nat} {x : Arc} (h : ar[k]? = some x) : plcF z (ar.take (k + 1)) v = plcF z (ar.take k) v ++ plcA z v x := by
 rw [plcF, plcF, take_snoc h, List.flatMap_append, List.flatMap_cons, List.flatMap_nil, List.append_nil]
set_option maxHeartbeats 4000000 in
theorem bplaces_spec (a : Lv) (v : Int) (z pl : List Int) (har : a.2.2.1.length ≤ 1000) (hpl : ∀ u : Int, 0 ≤ u → u < pl.length → pl[u.toNat]? = some (placeF z u))
  (hx : ∀ x, x ∈ a.2.2.1 → x.1 ≠ x.2 ∧ (0 ≤ x.1 ∧ x.1 < pl.length) ∧ (0 ≤ x.2 ∧ x.2 < pl.length)) :
  CallsTo Tryz.prog 97 [lvD a, .int v, intsD pl] (intsD (plcF z a.2.2.1 v)) := by
 obtain ⟨n, ls, ar, cs⟩ := a
 dsimp only at har hx ⊢
 refine callsTo_of Tryz.func97 rfl (by decide +kernel) (Nat.le_of_ble_eq_true rfl) ?_
 intro hat B X w0
 repeat' first | refine pw_seq ?_ | refine pw_skip ?_ | refine pw_ret ?_ | refine pw_exit ?_ | refine pw_block ?_ | refine pw_region (fun _ => false) hmix ?_ | (refine wpG_split rfl rfl (fun hc => ?_) (fun hc => ?_) <;> try simp only [hcL, reduceCtorEq] at hc) | (refine pw_cond _ rfl rfl (fun hc => ?_) (fun hc => ?_) <;> (try simp only [hcL, reduceCtorEq] at hc) <;> try (exfalso; omega)) | simp (maxSteps := 1000000) (disch := omega) only [go_sem, simprocAttr] | apply And.intro | omega | decide +kernel
 refine pw_ent _ (ent_nil 7 901 1 rfl rfl) ?_
 refine pw_loopI (κ := Nat) (fun (k : Nat) => k ≤ ar.length) (fun (k : Nat) => [(1, .int v), (2, .d (intsD pl)), (7, .ref 901 1 0 (plcF z (ar.take k) v).length (plcF z (ar.take k) v).length), (11, .d (arcsD ar)), (12, .int ar.length), (13, .int k)]) (fun (k : Nat) => [(901, .row 1 ((plcF z (ar.take k) v).map D.int))]) (fun (k : Nat) => ar.length - k) 0 ?_ ?_ ?_
 ·exact Nat.zero_le _
 ·exact eL [] _ _ (by refine ⟨?_, ?_⟩ <;> (repeat' first | exact List.forall_mem_nil _ | refine List.forall_mem_cons.2 ⟨(by first | rfl | (simp (disch := omega) only [go_sem, simprocAttr, inL, List.take_zero, plcF, List.flatMap_nil, List.map_nil, List.length_nil]; first | done | omega | (congr 1; done))), ?_⟩); done)
 ·intro k hk
  have hRl := plcF_len z v (ar.take k)
  rw [List.length_take, Nat.min_eq_left hk] at hRl
  rcases Nat.lt_or_ge k ar.length with hlt | hge
  ·obtain ⟨x, hxk⟩ := get_some hlt
   obtain ⟨hne, ⟨b1, b2⟩, ⟨b3, b4⟩⟩ := hx x (List.mem_of_getElem? hxk)
   have g1 := hpl x.1 b1 b2
   have g2 := hpl x.2 b3 b4
   have e1 := plcF_snoc (z := z) (v := v) hxk
   rw [plcA] at e1
   generalize plcF z (ar.take k) v = R at *
   generalize placeF z x.1 = q1 at *
   generalize placeF z x.2 = q2 at *
   obtain ⟨s, t⟩ := x
   dsimp only at *
   have htl : (R.map D.int).take R.length = R.map D.int := take_map_len _ _
   have i1 : s.toNat < pl.length := by omega
   have i2 : t.toNat < pl.length := by omega
   by_cases c1 : s = v ∧ 0 ≤ q2
   ·obtain ⟨c1, c2⟩ := c1
    have c3 : ¬ t = v := fun e => hne (c1.trans e.symm)
    rw [if_pos ⟨c1, c2⟩, if_neg (fun h => c3 h.1), List.append_nil] at e1
    repeat' first | refine pw_seq ?_ | refine pw_skip ?_ | refine pw_ret ?_ | refine pw_exit ?_ | refine pw_block ?_ | refine pw_region (fun _ => false) hmix ?_ | (refine wpG_split rfl rfl (fun hc => ?_) (fun hc => ?_) <;> try simp only [hcL, reduceCtorEq] at hc) | (refine pw_cond _ rfl rfl (fun hc => ?_) (fun hc => ?_) <;> (try simp only [hcL, reduceCtorEq] at hc) <;> try (exfalso; omega)) | simp (maxSteps := 1000000) (disch := omega) only [go_sem, simprocAttr, hxk, g1, g2, i1, i2, b1, b2, b3, b4, c1, c2, c3, htl, roomy] | exact one_int _ | apply And.intro | omega | decide +kernel
    refine ⟨k + 1, ?_, eL [(901, 36)] _ _ (by refine ⟨?_, ?_⟩ <;> (repeat' first | exact List.forall_mem_nil _ | refine List.forall_mem_cons.2 ⟨(by first | rfl | (simp (disch := omega) only [go_sem, simprocAttr, inL, e1, List.map_append, List.map_cons, List.map_nil, List.length_append, List.length_cons, List.length_nil, Nat.zero_add, htl]; first | done | omega | (congr 1; done))), ?_⟩); done), ?_⟩
    ·omega
    ·omega
   ·by_cases c4 : t = v ∧ 0 ≤ q1
    ·obtain ⟨c4, c5⟩ := c4
     have c3 : ¬ s = v := fun e => hne (e.trans c4.symm)
     rw [if_neg c1, if_pos ⟨c4, c5⟩, List.nil_append] at e1
     repeat' first | refine pw_seq ?_ | refine pw_skip ?_ | refine pw_ret ?_ | refine pw_exit ?_ | refine pw_block ?_ | refine pw_region (fun _ => false) hmix ?_ | (refine wpG_split rfl rfl (fun hc => ?_) (fun hc => ?_) <;> try simp only [hcL, reduceCtorEq] at hc) | (refine pw_cond _ rfl rfl (fun hc => ?_) (fun hc => ?_) <;> (try simp only [hcL, reduceCtorEq] at hc) <;> try (exfalso; omega)) | simp (maxSteps := 1000000) (disch := omega) only [go_sem, simprocAttr, hxk, g1, g2, i1, i2, b1, b2, b3, b4, c3, c4, c5, htl, roomy] | exact one_int _ | apply And.intro | omega | decide +kernel
     refine ⟨k + 1, ?_, eL [(901, 56)] _ _ (by refine ⟨?_, ?_⟩ <;> (repeat' first | exact List.forall_mem_nil _ | refine List.forall_mem_cons.2 ⟨(by first | rfl | (simp (disch := omega) only [go_sem, simprocAttr, inL, e1, List.map_append, List.map_cons, List.map_nil, List.length_append, List.length_cons, List.length_nil, Nat.zero_add, htl]; first | done | omega | (congr 1; done))), ?_⟩); done), ?_⟩
     ·omega
     ·omega
    ·rw [if_neg c1, if_neg c4, List.nil_append, List.append_nil] at e1
     repeat' first | refine pw_seq ?_ | refine pw_skip ?_ | refine pw_ret ?_ | refine pw_exit ?_ | refine pw_block ?_ | refine pw_region (fun _ => false) hmix ?_ | (refine wpG_split rfl rfl (fun hc => ?_) (fun hc => ?_) <;> try simp only [hcL, reduceCtorEq] at hc) | (refine pw_cond _ rfl rfl (fun hc => ?_) (fun hc => ?_) <;> (try simp only [hcL, reduceCtorEq] at hc) <;> try (exfalso; omega)) | simp (maxSteps := 1000000) (disch := omega) only [go_sem, simprocAttr, hxk, g1, g2, i1, i2, b1, b2, b3, b4, htl, roomy] | exact one_int _ | apply And.intro | omega | decide +kernel
     all_goals
      refine ⟨k + 1, ?_, eL [] _ _ (by refine ⟨?_, ?_⟩ <;> (repeat' first | exact List.forall_mem_nil _ | refine List.forall_mem_cons.2 ⟨(by first | rfl | (simp (disch := omega) only [go_sem, simprocAttr, inL, e1]; first | done | omega | (congr 1; done))), ?_⟩); done), ?_⟩
      ·omega
      ·omega
  ·have : k = ar.length := by omega
   subst this
   rw [List.take_length] at hRl ⊢
   repeat' first | refine pw_seq ?_ | refine pw_skip ?_ | refine pw_ret ?_ | refine pw_exit ?_ | refine pw_block ?_ | refine pw_region (fun _ => false) hmix ?_ | (refine wpG_split rfl rfl (fun hc => ?_) (fun hc => ?_) <;> try simp only [hcL, reduceCtorEq] at hc) | (refine pw_cond _ rfl rfl (fun hc => ?_) (fun hc => ?_) <;> (try simp only [hcL, reduceCtorEq] at hc) <;> try (exfalso; omega)) | simp (maxSteps := 1000000) (disch := omega) only [go_sem, simprocAttr] | apply And.intro | omega | decide +kernel
   exact ret_ref (o := 901) rfl rfl (by simp) (take_map_len _ _)
end Go.Proofs.YtldbcbclhpcofaaGreat
