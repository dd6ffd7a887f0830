/- Crossings: places, and the places of the other ends. -/
import Derived.Test.YtldbcbclhpcofaaL
set_option linter.unusedSimpArgs false
set_option linter.unusedVariables false
namespace Go.Proofs.Ytldbcbclhpcofaa
open Go Go.PS Go.Proofs
set_option maxRecDepth 100000
attribute [local irreducible] wpRun wpG CallsTo CallsM

theorem getM_put (m : List (Int × Int)) (k v u : Int) : getM (putM m k v) u = if k = u then v else getM m u := by
 induction m with
 | nil => simp only [putM, getM]
 | cons p m ih =>
  obtain ⟨a, b⟩ := p
  simp only [putM]
  by_cases h : a = k
  ·rw [if_pos h]
   simp only [getM]
   by_cases h2 : k = u
   ·rw [if_pos h2, if_pos h2]
   ·rw [if_neg h2, if_neg h2, if_neg (by rw [h]; exact h2)]
  ·rw [if_neg h]
   simp only [getM, ih]
   by_cases h2 : a = u
   ·rw [if_pos h2, if_neg (by omega)]
    simp [h2]
   ·rw [if_neg h2]; simp [h2]
def rowM (m : List (Int × Int)) (y : List Int) (g : Nat → Int) : Nat → List (Int × Int)
 | 0 => m
 | k + 1 => putM (rowM m y g k) (at0 y k) (g k)
def allM (h : Nat → Nat → Int) (ls : List (List Int)) : Nat → List (Int × Int)
 | 0 => []
 | i + 1 => rowM (allM h ls i) ((ls[i]?).getD []) (h i) (((ls[i]?).getD []).length)
def plM (ls : List (List Int)) : List (Int × Int) := allM (fun _ k => k) ls ls.length
def lyM (ls : List (List Int)) : List (Int × Int) := allM (fun i _ => i) ls ls.length
theorem idxOf_at : ∀ {y : List Int} {k : Nat} {v : Int}, y.Nodup → y[k]? = some v → y.idxOf v = k
 | [], k, v, _, h => by simp at h
 | a :: y, 0, v, _, h => by simp at h; subst h; simp
 | a :: y, k + 1, v, hn, h => by
  have hn2 := List.nodup_cons.1 hn
  have h2 : y[k]? = some v := by simpa using h
  have hne : a ≠ v := fun e => hn2.1 (e ▸ List.mem_of_getElem? h2)
  have ih := idxOf_at hn2.2 h2
  have hb : (a == v) = false := by simpa using hne
  simp [List.idxOf_cons, hb, ih]
theorem getM_row (m : List (Int × Int)) (y : List Int) (g : Nat → Int) (u : Int) : ∀ k, k ≤ y.length → y.Nodup → getM (rowM m y g k) u = if u ∈ y.take k then g (y.idxOf u) else getM m u
 | 0, _, _ => by simp [rowM]
 | k + 1, h, hn => by
  have hk := at0_at (r := y) (i := k) (by omega)
  have hi : y.idxOf (at0 y k) = k := idxOf_at hn hk
  rw [rowM, getM_put, getM_row m y g u k (by omega) hn, take_snoc hk]
  simp only [List.mem_append, List.mem_singleton]
  by_cases c : at0 y k = u
  ·rw [if_pos c, if_pos (.inr c.symm), ← c, hi]
  ·rw [if_neg c]
   by_cases c2 : u ∈ y.take k
   ·rw [if_pos c2, if_pos (.inl c2)]
   ·rw [if_neg c2, if_neg (by rintro (h1 | h1); exact c2 h1; exact c h1.symm)]
theorem getM_all (h : Nat → Nat → Int) (ls : List (List Int)) (hn : ls.flatten.Nodup) (u : Int) : ∀ i, i ≤ ls.length → (∀ k y, k < i → ls[k]? = some y → u ∈ y → getM (allM h ls i) u = h k (y.idxOf u)) ∧ (u ∉ (ls.take i).flatten → getM (allM h ls i) u = 0)
 | 0, _ => ⟨fun k y hk => by omega, fun _ => rfl⟩
 | i + 1, hi => by
  obtain ⟨y, hy⟩ := get_some (l := ls) (k := i) (by omega)
  obtain ⟨g1, g2⟩ := getM_all h ls hn u i (by omega)
  have hsub : ∀ z, z ∈ ls → z.Nodup := fun z hz => (List.pairwise_flatten.1 hn).1 z hz
  have hyn := hsub y (List.mem_of_getElem? hy)
  have hr := getM_row (allM h ls i) y (h i) u y.length (Nat.le_refl _) hyn
  rw [List.take_length] at hr
  have ha : allM h ls (i + 1) = rowM (allM h ls i) y (h i) y.length := by rw [allM, hy]; rfl
  rw [ha, hr]
  refine ⟨fun k z hk hz hu => ?_, fun hu => ?_⟩
  ·rcases Nat.lt_succ_iff_lt_or_eq.1 hk with h1 | rfl
   ·have hd := List.pairwise_iff_getElem.1 (List.pairwise_flatten.1 hn).2 k i (List.getElem?_eq_some_iff.1 hz).1 (List.getElem?_eq_some_iff.1 hy).1 h1
    have e1 := (List.getElem?_eq_some_iff.1 hz).2
    have e2 := (List.getElem?_eq_some_iff.1 hy).2
    rw [e1, e2] at hd
    rw [if_neg (fun hu2 => hd u hu u hu2 rfl)]
    exact g1 k z h1 hz hu
   ·rw [hy] at hz; cases hz
    rw [if_pos hu]
  ·rw [take_snoc hy, List.flatten_append, List.mem_append] at hu
   rw [if_neg (fun hu2 => hu (.inr (by simpa using hu2)))]
   exact g2 fun hu2 => hu (.inl hu2)
set_option maxHeartbeats 4000000 in
theorem places_spec (a : Lv) (hn : a.2.1.length ≤ 1000) (hl : ∀ y, y ∈ a.2.1 → y.length ≤ 1000) : CallsM Try.prog 88 [.d (lvD a)] [(2000, .dead), (2001, .dead)] (.tup [.mp 2000, .mp 2001]) [(2000, .imap (plM a.2.1)), (2001, .imap (lyM a.2.1))] := by
 obtain ⟨n, ls, ar, cs⟩ := a
 dsimp only at hn hl
 refine callsM_of Try.func88 rfl (by decide +kernel) (Nat.le_of_ble_eq_true rfl) rfl (nodup_of rfl) rfl rfl rfl ?_
 intro B X w0
 repeat' first | refine pw_seq ?_ | refine pw_skip ?_ | refine pw_ret ?_ | refine pw_exit ?_ | refine pw_block ?_ | refine pw_region (fun _ => false) hmix ?_ | (refine wpG_split rfl rfl (fun hc => ?_) (fun hc => ?_) <;> try simp only [hcL, reduceCtorEq] at hc) | (refine pw_cond _ rfl rfl (fun hc => ?_) (fun hc => ?_) <;> (try simp only [hcL, reduceCtorEq] at hc) <;> try (exfalso; omega)) | simp (maxSteps := 1000000) (disch := omega) only [go_sem, simprocAttr] | apply And.intro | omega | decide +kernel
 refine pw_loopI (κ := Nat) (fun (i : Nat) => i ≤ ls.length) (fun (i : Nat) => [(1, .ptr 1 0 0 0), (2, .mp 8), (3, .mp 9), (11, .d (listsD ls)), (12, .int ls.length), (13, .int i)]) (fun (i : Nat) => [(1, .cells [.int n, .d (listsD ls), .d (arcsD ar), .d (listsD cs)]), (8, .imap (allM (fun _ k => k) ls i)), (9, .imap (allM (fun i _ => i) ls i))]) (fun (i : Nat) => ls.length - i) 0 ?_ ?_ ?_
 ·exact Nat.zero_le _
 ·exact eL [] _ _ (by refine ⟨?_, ?_⟩ <;> (repeat' first | exact List.forall_mem_nil _ | refine List.forall_mem_cons.2 ⟨(by first | rfl | (simp (disch := omega) only [go_sem, simprocAttr, inL, allM]; first | done | omega | (congr 1; done))), ?_⟩); done)
 ·intro i hi
  rcases Nat.lt_or_ge i ls.length with hlt | hge
  ·obtain ⟨y, hy⟩ := get_some hlt
   have hyl := hl y (List.mem_of_getElem? hy)
   have e1 : allM (fun _ k => (k : Int)) ls (i + 1) = rowM (allM (fun _ k => (k : Int)) ls i) y (fun k => (k : Int)) y.length := by rw [allM, hy]; rfl
   have e2 : allM (fun i _ => (i : Int)) ls (i + 1) = rowM (allM (fun i _ => (i : Int)) ls i) y (fun _ => (i : Int)) y.length := by rw [allM, hy]; rfl
   repeat' first | refine pw_seq ?_ | refine pw_skip ?_ | refine pw_ret ?_ | refine pw_exit ?_ | refine pw_block ?_ | refine pw_region (fun _ => false) hmix ?_ | (refine wpG_split rfl rfl (fun hc => ?_) (fun hc => ?_) <;> try simp only [hcL, reduceCtorEq] at hc) | (refine pw_cond _ rfl rfl (fun hc => ?_) (fun hc => ?_) <;> (try simp only [hcL, reduceCtorEq] at hc) <;> try (exfalso; omega)) | simp (maxSteps := 1000000) (disch := omega) only [go_sem, simprocAttr, hy] | apply And.intro | omega | decide +kernel
   refine pw_loopI (κ := Nat) (fun (k : Nat) => k ≤ y.length) (fun (k : Nat) => [(1, .ptr 1 0 0 0), (2, .mp 8), (3, .mp 9), (4, .int i), (11, .d (listsD ls)), (12, .int ls.length), (13, .int i), (18, .d (intsD y)), (19, .int y.length), (20, .int k)]) (fun (k : Nat) => [(1, .cells [.int n, .d (listsD ls), .d (arcsD ar), .d (listsD cs)]), (8, .imap (rowM (allM (fun _ k => k) ls i) y (fun k => (k : Int)) k)), (9, .imap (rowM (allM (fun i _ => i) ls i) y (fun _ => (i : Int)) k))]) (fun (k : Nat) => y.length - k) 0 ?_ ?_ ?_
   ·exact Nat.zero_le _
   ·exact eL [] _ _ (by refine ⟨?_, ?_⟩ <;> (repeat' first | exact List.forall_mem_nil _ | refine List.forall_mem_cons.2 ⟨(by first | rfl | (simp (disch := omega) only [go_sem, simprocAttr, inL, rowM]; first | done | omega | (congr 1; done))), ?_⟩); done)
   ·intro k hk
    rcases Nat.lt_or_ge k y.length with hlk | hgk
    ·have gy := at0_at hlk
     repeat' first | refine pw_seq ?_ | refine pw_skip ?_ | refine pw_ret ?_ | refine pw_exit ?_ | refine pw_block ?_ | refine pw_region (fun _ => false) hmix ?_ | (refine wpG_split rfl rfl (fun hc => ?_) (fun hc => ?_) <;> try simp only [hcL, reduceCtorEq] at hc) | (refine pw_cond _ rfl rfl (fun hc => ?_) (fun hc => ?_) <;> (try simp only [hcL, reduceCtorEq] at hc) <;> try (exfalso; omega)) | simp (maxSteps := 1000000) (disch := omega) only [go_sem, simprocAttr, gy] | apply And.intro | omega | decide +kernel
     refine ⟨k + 1, ?_, eL [] _ _ (by refine ⟨?_, ?_⟩ <;> (repeat' first | exact List.forall_mem_nil _ | refine List.forall_mem_cons.2 ⟨(by first | rfl | (simp (disch := omega) only [go_sem, simprocAttr, inL, rowM]; first | done | omega | (congr 1; done))), ?_⟩); done), ?_⟩
     ·omega
     ·omega
    ·have : k = y.length := by omega
     subst this
     repeat' first | refine pw_seq ?_ | refine pw_skip ?_ | refine pw_ret ?_ | refine pw_exit ?_ | refine pw_block ?_ | refine pw_region (fun _ => false) hmix ?_ | (refine wpG_split rfl rfl (fun hc => ?_) (fun hc => ?_) <;> try simp only [hcL, reduceCtorEq] at hc) | (refine pw_cond _ rfl rfl (fun hc => ?_) (fun hc => ?_) <;> (try simp only [hcL, reduceCtorEq] at hc) <;> try (exfalso; omega)) | simp (maxSteps := 1000000) (disch := omega) only [go_sem, simprocAttr] | apply And.intro | omega | decide +kernel
     refine ⟨i + 1, ?_, eL [] _ _ (by refine ⟨?_, ?_⟩ <;> (repeat' first | exact List.forall_mem_nil _ | refine List.forall_mem_cons.2 ⟨(by first | rfl | (simp (disch := omega) only [go_sem, simprocAttr, inL, e1, e2]; first | done | omega | (congr 1; done))), ?_⟩); done), ?_⟩
     ·omega
     ·omega
  ·have : i = ls.length := by omega
   subst this
   repeat' first | refine pw_seq ?_ | refine pw_skip ?_ | refine pw_exit ?_ | refine pw_block ?_ | refine pw_region (fun _ => false) hmix ?_ | (refine wpG_split rfl rfl (fun hc => ?_) (fun hc => ?_) <;> try simp only [hcL, reduceCtorEq] at hc) | (refine pw_cond _ rfl rfl (fun hc => ?_) (fun hc => ?_) <;> (try simp only [hcL, reduceCtorEq] at hc) <;> try (exfalso; omega)) | simp (maxSteps := 1000000) (disch := omega) only [go_sem, simprocAttr] | apply And.intro | omega | decide +kernel
   refine eR [(2000, 8), (2001, 9)] [(2, .mp 2000), (3, .mp 2001)] [(2000, .imap (plM ls)), (2001, .imap (lyM ls))] (by refine ⟨?_, ?_⟩ <;> (repeat' first | exact List.forall_mem_nil _ | refine List.forall_mem_cons.2 ⟨(by first | rfl | (simp (disch := omega) only [go_sem, simprocAttr, inL]; first | done | omega | (congr 1; done))), ?_⟩); done) ?_
   refine pw_ret ?_
   exact ⟨⟨_, rfl, rfl, rfl, trivial⟩, List.forall_mem_cons.2 ⟨rfl, List.forall_mem_cons.2 ⟨rfl, List.forall_mem_nil _⟩⟩⟩
end Go.Proofs.Ytldbcbclhpcofaa
namespace Go.Proofs.Ytldbcbclhpcofaa
open Go Go.PS Go.Proofs
set_option maxRecDepth 100000
attribute [local irreducible] wpRun wpG CallsTo CallsM

def Lies (ls : List (List Int)) (v : Int) (r p : Nat) : Prop := ∃ y, ls[r]? = some y ∧ y[p]? = some v
theorem lies_of {ls : List (List Int)} {v : Int} (h : v ∈ ls.flatten) : ∃ r p, Lies ls v r p := by
 obtain ⟨y, hy, hv⟩ := List.mem_flatten.1 h
 obtain ⟨r, hr⟩ := List.getElem?_of_mem hy
 obtain ⟨p, hp⟩ := List.getElem?_of_mem hv
 exact ⟨r, p, y, hr, hp⟩
theorem Lies.mem {ls : List (List Int)} {v : Int} {r p : Nat} (h : Lies ls v r p) : v ∈ ls.flatten := by
 obtain ⟨y, h1, h2⟩ := h
 exact List.mem_flatten.2 ⟨y, List.mem_of_getElem? h1, List.mem_of_getElem? h2⟩
theorem Lies.idx {ls : List (List Int)} (hn : ls.flatten.Nodup) {v : Int} {r p : Nat} {y : List Int} (hy : ls[r]? = some y) (h : y[p]? = some v) : y.idxOf v = p := by
 have hyn := (List.pairwise_flatten.1 hn).1 y (List.mem_of_getElem? hy)
 exact idxOf_at hyn h
theorem Lies.layer {ls : List (List Int)} (hn : ls.flatten.Nodup) {v : Int} {r p r' p' : Nat} (h : Lies ls v r p) (h' : Lies ls v r' p') : r = r' := by
 obtain ⟨y, h1, h2⟩ := h
 obtain ⟨z, h3, h4⟩ := h'
 have e1 := List.getElem?_eq_some_iff.1 h1
 have e2 := List.getElem?_eq_some_iff.1 h3
 have hp := (List.pairwise_flatten.1 hn).2
 rcases Nat.lt_trichotomy r r' with h | h | h
 ·have := List.pairwise_iff_getElem.1 hp r r' e1.1 e2.1 h
  rw [e1.2, e2.2] at this
  exact absurd rfl (this v (List.mem_of_getElem? h2) v (List.mem_of_getElem? h4))
 ·exact h
 ·have := List.pairwise_iff_getElem.1 hp r' r e2.1 e1.1 h
  rw [e1.2, e2.2] at this
  exact absurd rfl (this v (List.mem_of_getElem? h4) v (List.mem_of_getElem? h2))
theorem Lies.ly {ls : List (List Int)} (hn : ls.flatten.Nodup) {v : Int} {r p : Nat} (h : Lies ls v r p) : getM (lyM ls) v = r := by
 obtain ⟨y, h1, h2⟩ := h
 exact (getM_all _ ls hn v ls.length (Nat.le_refl _)).1 r y (List.getElem?_eq_some_iff.1 h1).1 h1 (List.mem_of_getElem? h2)
theorem Lies.pl {ls : List (List Int)} (hn : ls.flatten.Nodup) {v : Int} {r p : Nat} (h : Lies ls v r p) : getM (plM ls) v = p := by
 obtain ⟨y, h1, h2⟩ := h
 rw [plM, (getM_all _ ls hn v ls.length (Nat.le_refl _)).1 r y (List.getElem?_eq_some_iff.1 h1).1 h1 (List.mem_of_getElem? h2), Lies.idx hn h1 h2]
theorem Lies.lay {ls : List (List Int)} (hn : ls.flatten.Nodup) {v : Int} {r p : Nat} (h : Lies ls v r p) : layI ls v = r := by
 have h0 := layI_mem.2 h.mem
 have hd := h
 obtain ⟨y, h1, h2⟩ := h
 rw [layI] at h0 ⊢
 cases hf : ls.findIdx? (fun y => y.any fun x => decide (x = v)) with
 | none => rw [hf] at h0; exact absurd h0 (by decide)
 | some k =>
  have hk := List.findIdx?_eq_some_iff_getElem.1 hf
  obtain ⟨hk1, hk2, _⟩ := hk
  obtain ⟨x, hx, hxv⟩ := List.any_eq_true.1 hk2
  have : x = v := by simpa using hxv
  subst this
  obtain ⟨p', hp'⟩ := List.getElem?_of_mem hx
  have := Lies.layer hn hd (⟨ls[k], List.getElem?_eq_getElem hk1, hp'⟩ : Lies ls x k p')
  rw [this]; rfl
structure Joins (ls : List (List Int)) (x : Arc) (r p q : Nat) : Prop where
 up : Lies ls x.1 r p
 dn : Lies ls x.2 (r + 1) q
theorem valid_nodup {a : Lv} (h : validF a = true) : a.2.1.flatten.Nodup := by
 obtain ⟨_, _, hr⟩ := valid_built h
 obtain ⟨_, _, hg, _⟩ := ranks_ok hr
 exact (good_iff.1 hg).2
theorem valid_joins {a : Lv} (h : validF a = true) {k : Nat} {x : Arc} (hx : a.2.2.1[k]? = some x) : ∃ r p q, Joins a.2.1 x r p q := by
 have hn := valid_nodup h
 obtain ⟨b, hm, hr⟩ := valid_built h
 obtain ⟨_, _, hg, ho⟩ := ranks_ok hr
 have har : a.2.2.1 = arcsF (ranksV a) (srcG a).2 (srcG a).2.length := congrArg (fun x : Lv => x.2.2.1) hm
 -- an arc of chain e
 have hmem : ∀ m, m ≤ (srcG a).2.length → ∀ x, x ∈ arcsF (ranksV a) (srcG a).2 m → ∃ e c j, (srcG a).2[e]? = some c ∧ j < gapN (ranksV a) c + 1 ∧ x = pairAt (chainOf (ranksV a) (allR (ranksV a) (srcG a).2 e).length c) j := by
  intro m
  induction m with
  | zero => intro _ x hx; simp [arcsF, catN] at hx
  | succ m ih =>
   intro hm x hx
   obtain ⟨c, hc⟩ := get_some (l := (srcG a).2) (k := m) (by omega)
   rw [arcsF_succ hc, List.mem_append] at hx
   rcases hx with hx | hx
   ·exact ih (by omega) x hx
   ·simp only [pairsN, List.mem_map, List.mem_range] at hx
    obtain ⟨j, hj, rfl⟩ := hx
    exact ⟨m, c, j, hc, hj, rfl⟩
 obtain ⟨e, c, j, hc, hj, rfl⟩ := hmem _ (Nat.le_refl _) x (har ▸ List.mem_of_getElem? hx)
 obtain ⟨x1, x2, x3⟩ := b.chain_at hc (j := j) (by omega)
 obtain ⟨y1, y2, y3⟩ := b.chain_at hc (j := j + 1) (by omega)
 rw [pairAt]
 generalize at0 (chainOf (ranksV a) (allR (ranksV a) (srcG a).2 e).length c) j = u at x1 x2 x3 ⊢
 generalize at0 (chainOf (ranksV a) (allR (ranksV a) (srcG a).2 e).length c) ((j + 1 : Nat) : Int) = v at y1 y2 y3 ⊢
 have hlay : ∀ u : Int, 0 ≤ u → u < (allR (ranksV a) (srcG a).2 (srcG a).2.length).length → layI a.2.1 u = at0 (allR (ranksV a) (srcG a).2 (srcG a).2.length) u := by
  intro u h0 h1
  have hl : (allR (ranksV a) (srcG a).2 (srcG a).2.length).length = tot a.2.1 := by rw [ho, rowR_len]
  obtain ⟨n, rfl⟩ : ∃ n : Nat, u = n := ⟨u.toNat, by omega⟩
  have := rowR_get (c := tot a.2.1) (v := n) (by omega) a.2.1
  rw [← ho, at0_at (by omega), Option.some.injEq] at this
  exact this.symm
 have e1 := hlay u x1 x2
 have e2 := hlay v y1 y2
 have hrk := b.rk c.1.toNat
 have hin := b.ends hc
 rw [show ((c.1.toNat : Nat) : Int) = c.1 by omega] at hrk
 obtain ⟨r, p, hl1⟩ := lies_of (layI_mem.1 (show 0 ≤ layI a.2.1 u by omega))
 obtain ⟨r2, q, hl2⟩ := lies_of (layI_mem.1 (show 0 ≤ layI a.2.1 v by omega))
 have e3 := hl1.lay hn
 have e4 := hl2.lay hn
 have : r2 = r + 1 := by omega
 subst this
 exact ⟨r, p, q, hl1, hl2⟩
end Go.Proofs.Ytldbcbclhpcofaa
namespace Go.Proofs.Ytldbcbclhpcofaa
open Go Go.PS Go.Proofs
set_option maxRecDepth 100000
attribute [local irreducible] wpRun wpG CallsTo CallsM

def endsAt (ls : List (List Int)) (i f : Int) (p : Nat) (x : Arc) : List Int :=
 if getM (lyM ls) x.1 = i ∧ getM (lyM ls) x.2 = f then (if getM (plM ls) x.1 = p then [getM (plM ls) x.2] else [])
 else if getM (lyM ls) x.2 = i ∧ getM (lyM ls) x.1 = f then (if getM (plM ls) x.2 = p then [getM (plM ls) x.1] else []) else []
def endsN (ls : List (List Int)) (ar : List Arc) (i f : Int) (k p : Nat) : List Int := (ar.take k).flatMap (endsAt ls i f p)
theorem endsN_succ {ls : List (List Int)} {ar : List Arc} {i f : Int} {k : Nat} {x : Arc} (hx : ar[k]? = some x) (p : Nat) : endsN ls ar i f (k + 1) p = endsN ls ar i f k p ++ endsAt ls i f p x := by
 simp [endsN, take_snoc hx]
theorem endsAt_len (ls : List (List Int)) (i f : Int) (p : Nat) (x : Arc) : (endsAt ls i f p x).length ≤ 1 := by
 unfold endsAt
 split
 ·split <;> simp
 ·split
  ·split <;> simp
  ·simp
theorem endsN_len (ls : List (List Int)) (ar : List Arc) (i f : Int) (p : Nat) : ∀ k, (endsN ls ar i f k p).length ≤ k
 | 0 => by simp [endsN]
 | k + 1 => by
  have ih := endsN_len ls ar i f p k
  rcases Nat.lt_or_ge k ar.length with h | h
  ·obtain ⟨x, hx⟩ := get_some h
   have := endsAt_len ls i f p x
   rw [endsN_succ hx, List.length_append]; omega
  ·rw [endsN, List.take_of_length_le (by omega)]
   rw [endsN, List.take_of_length_le (by omega)] at ih
   omega
def endsF (ls : List (List Int)) (ar : List Arc) (i f : Int) (n : Nat) : List (List Int) := (List.range n).map (endsN ls ar i f ar.length)
set_option maxHeartbeats 8000000 in
theorem ends_spec (a : Lv) (i : Nat) (f : Int) (y : List Int) (h : validF a = true) (hy : a.2.1[i]? = some y) : CallsTo Try.prog 82 [lvD a, .int i, .int f] (listsD (endsF a.2.1 a.2.2.1 i f y.length)) := by
 have hn := valid_nodup h
 have hj := fun k x hx => valid_joins h (k := k) (x := x) hx
 obtain ⟨s1, s2, s3⟩ := lv_sizes h
 obtain ⟨t1, t2⟩ := lv_le h
 have hp := places_spec a (by omega) (fun y hy => by have := tot_mem hy; omega)
 have hyl := tot_mem (List.mem_of_getElem? hy)
 have hil : i < a.2.1.length := (List.getElem?_eq_some_iff.1 hy).1
 obtain ⟨n, ls, ar, cs⟩ := a
 dsimp only at *
 obtain ⟨N, hN⟩ : ∃ N, N = y.length := ⟨_, rfl⟩
 rw [← hN] at hyl ⊢
 refine callsTo_of Try.func82 rfl (by decide +kernel) (Nat.le_of_ble_eq_true rfl) ?_
 intro hat B X w0
 repeat' first | refine pw_seq ?_ | refine pw_skip ?_ | refine pw_ret ?_ | refine pw_exit ?_ | refine pw_block ?_ | refine pw_region (fun _ => false) hmix ?_ | refine rcM [(2000, 914), (2001, 915)] (hp) rfl ?_ | (refine wpG_split rfl rfl (fun hc => ?_) (fun hc => ?_) <;> try simp only [hcL, reduceCtorEq] at hc) | (refine pw_cond _ rfl rfl (fun hc => ?_) (fun hc => ?_) <;> (try simp only [hcL, reduceCtorEq] at hc) <;> try (exfalso; omega)) | simp (maxSteps := 1000000) (disch := omega) only [go_sem, simprocAttr, hy, ← hN] | apply And.intro | omega | decide +kernel
 refine pw_ent _ (ent_famNew 1 23 1 N rfl (fun i hi => by simp (disch := omega) only [go_sem, simprocAttr, obOf_fid, argEnv]) (by decide) (by decide)) ?_
 refine pw_loopF (κ := Nat) (fun (k : Nat) => k ≤ ar.length) (fun (k : Nat) => [(1, .int i), (2, .int f), (3, .ptr 3 0 0 0), (7, .mp 914), (8, .mp 915), (9, .ref 23 1 0 N N), (25, .d (arcsD ar)), (26, .int ar.length), (27, .int k)]) (fun (k : Nat) => [⟨1, 23, 1, N, fun p => (endsN ls ar i f k p).map D.int⟩]) (fun (k : Nat) => [(3, .cells [.int n, .d (listsD ls), .d (arcsD ar), .d (listsD cs)]), (914, .imap (plM ls)), (915, .imap (lyM ls))]) (fun (k : Nat) => ar.length - k) 0 ?_ ?_ ?_
 ·exact Nat.zero_le _
 ·refine eF [] [] _ _ _ (by refine ⟨?_, ?_⟩ <;> (repeat' first | exact List.forall_mem_nil _ | refine List.forall_mem_cons.2 ⟨(by first | rfl | (simp (disch := omega) only [go_sem, simprocAttr, inL]; first | done | omega | (congr 1; done))), ?_⟩); done) ?_
  repeat' first | exact List.forall_mem_nil _ | refine List.forall_mem_cons.2 ⟨?_, ?_⟩
  all_goals refine ⟨_, (by first | rfl | (simp (disch := omega) only [go_sem, simprocAttr, endsN, List.take_zero, List.flatMap_nil]; done) | (simp (disch := omega) only [go_sem, simprocAttr, endsN, List.take_zero, List.flatMap_nil]; rfl)), fun i hi => ?_⟩
  all_goals dsimp only at hi ⊢
  all_goals try (exfalso; omega)
  all_goals try (simp (disch := omega) only [go_sem, simprocAttr, endsN, List.take_zero, List.flatMap_nil, fid_lit, lit_fid]; done)
 ·intro k hk
  rcases Nat.lt_or_ge k ar.length with hlt | hge
  ·obtain ⟨x, hx⟩ := get_some hlt
   obtain ⟨r, p, q, hup, hdn⟩ := hj k x hx
   have l1 := hup.ly hn
   have l2 := hdn.ly hn
   have p1 := hup.pl hn
   have p2 := hdn.pl hn
   have hst := endsN_succ (ls := ls) (i := i) (f := f) hx
   by_cases c1 : r = i ∧ ((r + 1 : Nat) : Int) = f
   ·obtain ⟨rfl, c2⟩ := c1
    have hpN : p < N := by
     obtain ⟨z, z1, z2⟩ := hup
     rw [hy] at z1; cases z1
     rw [hN]; exact (List.getElem?_eq_some_iff.1 z2).1
    have he : ∀ p', endsAt ls r f p' x = if p' = p then [(q : Int)] else [] := fun p' => by
     rw [endsAt, l1, l2, p1, p2, if_pos ⟨rfl, c2⟩]
     by_cases c : p' = p
     ·rw [if_pos (by omega), if_pos c]
     ·rw [if_neg (by omega), if_neg c]
    have hel := endsN_len ls ar r f p k
    refine pw_ent _ (ent_bor _ _ [3, 914, 915, 23] 23 p 900 1 1 N (by first | rfl | (simp (disch := omega) only [go_sem, simprocAttr]; done) | (simp (disch := omega) only [go_sem, simprocAttr]; rfl)) (by first | (simp (disch := omega) only [go_sem, simprocAttr]; done) | (simp (disch := omega) only [go_sem, simprocAttr]; rfl)) (by first | (simp (disch := omega) only [go_sem, simprocAttr]; done) | (simp (disch := omega) only [go_sem, simprocAttr]; rfl)) (fun i hi hne => by simp (disch := omega) only [go_sem, simprocAttr, hne]; (repeat' split) <;> exact .ref _ _ _ _ _ ⟨by simp (disch := omega) only [go_sem, simprocAttr, hne], by simp (disch := omega) only [go_sem, simprocAttr, hne]⟩) (by (repeat' first | refine ab_nil ?_ | exact ab_obOf (ids := [3, 914, 915, 23]) rfl rfl (Nat.le_of_ble_eq_true rfl) | refine ab_hole ?_ | refine ab_row ?_ | refine ab_dead ?_ | refine ab_self ?_ | refine ab_self_fam ?_ | refine ab_fam (by dsimp only; omega) (by dsimp only; omega) (by omega) (by omega) (Nat.le_of_ble_eq_true rfl) ?_); done) rfl rfl rfl) ?_
    repeat' first | refine pw_seq ?_ | refine pw_skip ?_ | refine pw_ret ?_ | refine pw_exit ?_ | refine pw_block ?_ | refine pw_region (fun _ => false) hmix ?_ | (refine wpG_split rfl rfl (fun hc => ?_) (fun hc => ?_) <;> try simp only [hcL, reduceCtorEq] at hc) | (refine pw_cond _ rfl rfl (fun hc => ?_) (fun hc => ?_) <;> (try simp only [hcL, reduceCtorEq] at hc) <;> try (exfalso; omega)) | simp (maxSteps := 1000000) (disch := omega) only [go_sem, simprocAttr, hx, l1, l2, p1, p2, c2, roomy, List.take_length, take_map_len] | apply And.intro | omega | decide +kernel
    refine ⟨k + 1, ?_, eF [(fid 1 p, 63)] [] _ _ _ (by refine ⟨?_, ?_⟩ <;> (repeat' first | exact List.forall_mem_nil _ | refine List.forall_mem_cons.2 ⟨(by first | rfl | (simp (disch := omega) only [go_sem, simprocAttr, inL]; first | done | omega | (congr 1; done))), ?_⟩); done) ?_, ?_⟩
    ·omega
    ·repeat' first | exact List.forall_mem_nil _ | refine List.forall_mem_cons.2 ⟨?_, ?_⟩
     all_goals refine ⟨_, (by first | rfl | (simp (disch := omega) only [go_sem, simprocAttr, hst, he, List.map_append, List.length_append, List.length_map, List.length_cons, List.length_nil, List.append_nil, take_map_len]; done) | (simp (disch := omega) only [go_sem, simprocAttr, hst, he, List.map_append, List.length_append, List.length_map, List.length_cons, List.length_nil, List.append_nil, take_map_len]; rfl)), fun i hi => ?_⟩
     all_goals dsimp only at hi ⊢
     all_goals rcases Decidable.em (i = p) with rfl | hi0
     all_goals try (exfalso; omega)
     all_goals try (simp (disch := omega) only [go_sem, simprocAttr, hst, he, List.map_append, List.length_append, List.length_map, List.length_cons, List.length_nil, List.append_nil, take_map_len, fid_lit, lit_fid]; done)
     all_goals try (simp (disch := omega) only [go_sem, simprocAttr, hst, he, List.map_append, List.length_append, List.length_map, List.length_cons, List.length_nil, List.append_nil, take_map_len, hi0, fid_lit, lit_fid]; done)
    ·omega
   ·by_cases c2 : r + 1 = i ∧ (r : Int) = f
    ·obtain ⟨c2, c3⟩ := c2
     have c4 : ¬ (r : Int) = i := by omega
     have c5 : ((r + 1 : Nat) : Int) = i := by omega
     have hqN : q < N := by
      obtain ⟨z, z1, z2⟩ := hdn
      rw [c2, hy] at z1; cases z1
      rw [hN]; exact (List.getElem?_eq_some_iff.1 z2).1
     have he : ∀ p', endsAt ls i f p' x = if p' = q then [(p : Int)] else [] := fun p' => by
      rw [endsAt, l1, l2, p1, p2, if_neg (fun h => c4 h.1), if_pos ⟨c5, c3⟩]
      by_cases c : p' = q
      ·rw [if_pos (by omega), if_pos c]
      ·rw [if_neg (by omega), if_neg c]
     have hel := endsN_len ls ar i f q k
     refine pw_ent _ (ent_bor _ _ [3, 914, 915, 23] 23 q 900 1 1 N (by first | rfl | (simp (disch := omega) only [go_sem, simprocAttr]; done) | (simp (disch := omega) only [go_sem, simprocAttr]; rfl)) (by first | (simp (disch := omega) only [go_sem, simprocAttr]; done) | (simp (disch := omega) only [go_sem, simprocAttr]; rfl)) (by first | (simp (disch := omega) only [go_sem, simprocAttr]; done) | (simp (disch := omega) only [go_sem, simprocAttr]; rfl)) (fun i hi hne => by simp (disch := omega) only [go_sem, simprocAttr, hne]; (repeat' split) <;> exact .ref _ _ _ _ _ ⟨by simp (disch := omega) only [go_sem, simprocAttr, hne], by simp (disch := omega) only [go_sem, simprocAttr, hne]⟩) (by (repeat' first | refine ab_nil ?_ | exact ab_obOf (ids := [3, 914, 915, 23]) rfl rfl (Nat.le_of_ble_eq_true rfl) | refine ab_hole ?_ | refine ab_row ?_ | refine ab_dead ?_ | refine ab_self ?_ | refine ab_self_fam ?_ | refine ab_fam (by dsimp only; omega) (by dsimp only; omega) (by omega) (by omega) (Nat.le_of_ble_eq_true rfl) ?_); done) rfl rfl rfl) ?_
     repeat' first | refine pw_seq ?_ | refine pw_skip ?_ | refine pw_ret ?_ | refine pw_exit ?_ | refine pw_block ?_ | refine pw_region (fun _ => false) hmix ?_ | (refine wpG_split rfl rfl (fun hc => ?_) (fun hc => ?_) <;> try simp only [hcL, reduceCtorEq] at hc) | (refine pw_cond _ rfl rfl (fun hc => ?_) (fun hc => ?_) <;> (try simp only [hcL, reduceCtorEq] at hc) <;> try (exfalso; omega)) | simp (maxSteps := 1000000) (disch := omega) only [go_sem, simprocAttr, hx, l1, l2, p1, p2, c3, c4, c5, roomy, List.take_length, take_map_len] | apply And.intro | omega | decide +kernel
     refine ⟨k + 1, ?_, eF [(fid 1 q, 97)] [] _ _ _ (by refine ⟨?_, ?_⟩ <;> (repeat' first | exact List.forall_mem_nil _ | refine List.forall_mem_cons.2 ⟨(by first | rfl | (simp (disch := omega) only [go_sem, simprocAttr, inL]; first | done | omega | (congr 1; done))), ?_⟩); done) ?_, ?_⟩
     ·omega
     ·repeat' first | exact List.forall_mem_nil _ | refine List.forall_mem_cons.2 ⟨?_, ?_⟩
      all_goals refine ⟨_, (by first | rfl | (simp (disch := omega) only [go_sem, simprocAttr, hst, he, List.map_append, List.length_append, List.length_map, List.length_cons, List.length_nil, List.append_nil, take_map_len]; done) | (simp (disch := omega) only [go_sem, simprocAttr, hst, he, List.map_append, List.length_append, List.length_map, List.length_cons, List.length_nil, List.append_nil, take_map_len]; rfl)), fun i hi => ?_⟩
      all_goals dsimp only at hi ⊢
      all_goals rcases Decidable.em (i = q) with rfl | hi0
      all_goals try (exfalso; omega)
      all_goals try (simp (disch := omega) only [go_sem, simprocAttr, hst, he, List.map_append, List.length_append, List.length_map, List.length_cons, List.length_nil, List.append_nil, take_map_len, fid_lit, lit_fid]; done)
      all_goals try (simp (disch := omega) only [go_sem, simprocAttr, hst, he, List.map_append, List.length_append, List.length_map, List.length_cons, List.length_nil, List.append_nil, take_map_len, hi0, fid_lit, lit_fid]; done)
     ·omega
    ·have he : ∀ p', endsAt ls i f p' x = [] := fun p' => by
      rw [endsAt, l1, l2, p1, p2, if_neg (fun h => c1 ⟨by omega, h.2⟩), if_neg (fun h => c2 ⟨by omega, h.2⟩)]
     by_cases d1 : (r : Int) = i <;> by_cases d2 : ((r + 1 : Nat) : Int) = f <;> by_cases d3 : ((r + 1 : Nat) : Int) = i <;> by_cases d4 : (r : Int) = f
     all_goals try (exfalso; omega)
     all_goals
      repeat' first | refine pw_seq ?_ | refine pw_skip ?_ | refine pw_ret ?_ | refine pw_exit ?_ | refine pw_block ?_ | refine pw_region (fun _ => false) hmix ?_ | (refine wpG_split rfl rfl (fun hc => ?_) (fun hc => ?_) <;> try simp only [hcL, reduceCtorEq] at hc) | (refine pw_cond _ rfl rfl (fun hc => ?_) (fun hc => ?_) <;> (try simp only [hcL, reduceCtorEq] at hc) <;> try (exfalso; omega)) | simp (maxSteps := 1000000) (disch := omega) only [go_sem, simprocAttr, hx, l1, l2, p1, p2, d1, d2, d3, d4] | apply And.intro | omega | decide +kernel
      refine ⟨k + 1, ?_, eF [] [] _ _ _ (by refine ⟨?_, ?_⟩ <;> (repeat' first | exact List.forall_mem_nil _ | refine List.forall_mem_cons.2 ⟨(by first | rfl | (simp (disch := omega) only [go_sem, simprocAttr, inL]; first | done | omega | (congr 1; done))), ?_⟩); done) ?_, ?_⟩
      ·omega
      ·repeat' first | exact List.forall_mem_nil _ | refine List.forall_mem_cons.2 ⟨?_, ?_⟩
       all_goals refine ⟨_, (by first | rfl | (simp (disch := omega) only [go_sem, simprocAttr, hst, he, List.append_nil]; done) | (simp (disch := omega) only [go_sem, simprocAttr, hst, he, List.append_nil]; rfl)), fun i hi => ?_⟩
       all_goals dsimp only at hi ⊢
       all_goals try (exfalso; omega)
       all_goals try (simp (disch := omega) only [go_sem, simprocAttr, hst, he, List.append_nil, fid_lit, lit_fid]; done)
      ·omega
  ·have : k = ar.length := by omega
   subst this
   try dsimp only
   refine pw_ent _ (ent_famRow _ _ _ _ ⟨nodup_of rfl, nodup_of rfl, (by (repeat' first | exact List.forall_mem_nil _ | refine List.forall_mem_cons.2 ⟨⟨Nat.le_of_ble_eq_true rfl, Nat.le_of_ble_eq_true rfl, by dsimp only; omega⟩, ?_⟩); done)⟩ rfl [3, 914, 915, 23] rfl rfl rfl rfl) ?_
   repeat' first | refine pw_seq ?_ | refine pw_skip ?_ | refine pw_ret ?_ | refine pw_exit ?_ | refine pw_block ?_ | refine pw_region (fun _ => false) hmix ?_ | (refine wpG_split rfl rfl (fun hc => ?_) (fun hc => ?_) <;> try simp only [hcL, reduceCtorEq] at hc) | (refine pw_cond _ rfl rfl (fun hc => ?_) (fun hc => ?_) <;> (try simp only [hcL, reduceCtorEq] at hc) <;> try (exfalso; omega)) | simp (maxSteps := 1000000) (disch := omega) only [go_sem, simprocAttr] | apply And.intro | omega | decide +kernel
   refine ret_ref (o := 23) rfl rfl (by simp) ?_
   rw [List.take_of_length_le (by simp), endsF, List.map_map]
   rfl
end Go.Proofs.Ytldbcbclhpcofaa
namespace Go.Proofs.Ytldbcbclhpcofaa
open Go Go.PS Go.Proofs
set_option maxRecDepth 100000
attribute [local irreducible] wpRun wpG CallsTo CallsM

def under (q : List Int) (x : Int) : Nat := (q.filter fun y => decide (y < x)).length
def behindF : List Int → List Int → Nat
 | [], _ => 0
 | x :: p, q => under q x + behindF p q
theorem under_le (q : List Int) (x : Int) : under q x ≤ q.length := List.length_filter_le _ _
theorem under_snoc (q : List Int) (x y : Int) : under (q ++ [y]) x = under q x + if y < x then 1 else 0 := by
 rw [under, List.filter_append, List.length_append, ← under]
 by_cases h : y < x
 ·simp [h]
 ·simp [h]
theorem behindF_snoc (p q : List Int) (x : Int) : behindF (p ++ [x]) q = behindF p q + under q x := by
 induction p with
 | nil => simp [behindF]
 | cons y p ih => simp only [List.cons_append, behindF, ih]; omega
theorem behindF_le (p q : List Int) : behindF p q ≤ p.length * q.length := by
 induction p with
 | nil => simp [behindF]
 | cons y p ih =>
  have := under_le q y
  simp only [behindF, List.length_cons, Nat.add_mul]; omega
theorem behind_spec (p q : List Int) (hp : p.length ≤ 1000) (hq : q.length ≤ 1000) : CallsTo Try.prog 83 [intsD p, intsD q] (.int (behindF p q)) := by
 have hb : ∀ k, behindF (p.take k) q ≤ 1000 * 1000 := fun k => by
  refine Nat.le_trans (behindF_le _ _) (Nat.mul_le_mul ?_ hq)
  rw [List.length_take]; omega
 refine callsTo_of Try.func83 rfl (by decide +kernel) (Nat.le_of_ble_eq_true rfl) ?_
 intro hat B X w0
 repeat' first | refine pw_seq ?_ | refine pw_skip ?_ | refine pw_ret ?_ | refine pw_exit ?_ | refine pw_block ?_ | refine pw_region (fun _ => false) hmix ?_ | (refine wpG_split rfl rfl (fun hc => ?_) (fun hc => ?_) <;> try simp only [hcL, reduceCtorEq] at hc) | (refine pw_cond _ rfl rfl (fun hc => ?_) (fun hc => ?_) <;> (try simp only [hcL, reduceCtorEq] at hc) <;> try (exfalso; omega)) | simp (maxSteps := 1000000) (disch := omega) only [go_sem, simprocAttr] | apply And.intro | omega | decide +kernel
 refine pw_loopI (κ := Nat) (fun (i : Nat) => i ≤ p.length) (fun (i : Nat) => [(1, .d (intsD q)), (5, .int (behindF (p.take i) q)), (10, .d (intsD p)), (11, .int p.length), (12, .int i)]) (fun (i : Nat) => []) (fun (i : Nat) => p.length - i) 0 ?_ ?_ ?_
 ·exact Nat.zero_le _
 ·exact eL [] _ _ (by refine ⟨?_, ?_⟩ <;> (repeat' first | exact List.forall_mem_nil _ | refine List.forall_mem_cons.2 ⟨(by first | rfl | (simp (disch := omega) only [go_sem, simprocAttr, inL, List.take_zero, behindF]; first | done | omega | (congr 1; done))), ?_⟩); done)
 ·intro i hi
  rcases Nat.lt_or_ge i p.length with hlt | hge
  ·obtain ⟨x, hx⟩ := get_some hlt
   have e1 : behindF (p.take (i + 1)) q = behindF (p.take i) q + under q x := by rw [take_snoc hx, behindF_snoc]
   have hb1 := hb i
   have hb2 := hb (i + 1)
   repeat' first | refine pw_seq ?_ | refine pw_skip ?_ | refine pw_ret ?_ | refine pw_exit ?_ | refine pw_block ?_ | refine pw_region (fun _ => false) hmix ?_ | (refine wpG_split rfl rfl (fun hc => ?_) (fun hc => ?_) <;> try simp only [hcL, reduceCtorEq] at hc) | (refine pw_cond _ rfl rfl (fun hc => ?_) (fun hc => ?_) <;> (try simp only [hcL, reduceCtorEq] at hc) <;> try (exfalso; omega)) | simp (maxSteps := 1000000) (disch := omega) only [go_sem, simprocAttr, hx] | apply And.intro | omega | decide +kernel
   refine pw_loopI (κ := Nat) (fun (j : Nat) => j ≤ q.length) (fun (j : Nat) => [(1, .d (intsD q)), (5, .int (behindF (p.take i) q + under (q.take j) x)), (7, .int x), (10, .d (intsD p)), (11, .int p.length), (12, .int i), (16, .d (intsD q)), (17, .int q.length), (18, .int j)]) (fun (j : Nat) => []) (fun (j : Nat) => q.length - j) 0 ?_ ?_ ?_
   ·exact Nat.zero_le _
   ·exact eL [] _ _ (by refine ⟨?_, ?_⟩ <;> (repeat' first | exact List.forall_mem_nil _ | refine List.forall_mem_cons.2 ⟨(by first | rfl | (simp (disch := omega) only [go_sem, simprocAttr, inL, List.take_zero, under, List.filter_nil, List.length_nil, Int.add_zero]; first | done | omega | (congr 1; done))), ?_⟩); done)
   ·intro j hj
    rcases Nat.lt_or_ge j q.length with hlj | hgj
    ·obtain ⟨y, hy⟩ := get_some hlj
     have e2 : under (q.take (j + 1)) x = under (q.take j) x + if y < x then 1 else 0 := by rw [take_snoc hy, under_snoc]
     have hu := under_le (q.take j) x
     rw [List.length_take] at hu
     by_cases c : y < x
     ·rw [if_pos c] at e2
      repeat' first | refine pw_seq ?_ | refine pw_skip ?_ | refine pw_ret ?_ | refine pw_exit ?_ | refine pw_block ?_ | refine pw_region (fun _ => false) hmix ?_ | (refine wpG_split rfl rfl (fun hc => ?_) (fun hc => ?_) <;> try simp only [hcL, reduceCtorEq] at hc) | (refine pw_cond _ rfl rfl (fun hc => ?_) (fun hc => ?_) <;> (try simp only [hcL, reduceCtorEq] at hc) <;> try (exfalso; omega)) | simp (maxSteps := 1000000) (disch := omega) only [go_sem, simprocAttr, hy, c] | apply And.intro | omega | decide +kernel
      refine ⟨j + 1, ?_, eL [] _ _ (by refine ⟨?_, ?_⟩ <;> (repeat' first | exact List.forall_mem_nil _ | refine List.forall_mem_cons.2 ⟨(by first | rfl | (simp (disch := omega) only [go_sem, simprocAttr, inL, e2, Int.natCast_add, Int.natCast_one, Int.add_assoc]; first | done | omega | (congr 1; done))), ?_⟩); done), ?_⟩
      ·omega
      ·omega
     ·rw [if_neg c] at e2
      repeat' first | refine pw_seq ?_ | refine pw_skip ?_ | refine pw_ret ?_ | refine pw_exit ?_ | refine pw_block ?_ | refine pw_region (fun _ => false) hmix ?_ | (refine wpG_split rfl rfl (fun hc => ?_) (fun hc => ?_) <;> try simp only [hcL, reduceCtorEq] at hc) | (refine pw_cond _ rfl rfl (fun hc => ?_) (fun hc => ?_) <;> (try simp only [hcL, reduceCtorEq] at hc) <;> try (exfalso; omega)) | simp (maxSteps := 1000000) (disch := omega) only [go_sem, simprocAttr, hy, c] | apply And.intro | omega | decide +kernel
      refine ⟨j + 1, ?_, eL [] _ _ (by refine ⟨?_, ?_⟩ <;> (repeat' first | exact List.forall_mem_nil _ | refine List.forall_mem_cons.2 ⟨(by first | rfl | (simp (disch := omega) only [go_sem, simprocAttr, inL, e2, Nat.add_zero]; first | done | omega | (congr 1; done))), ?_⟩); done), ?_⟩
      ·omega
      ·omega
    ·have : j = q.length := by omega
     subst this
     try dsimp only
     rw [List.take_length]
     repeat' first | refine pw_seq ?_ | refine pw_skip ?_ | refine pw_ret ?_ | refine pw_exit ?_ | refine pw_block ?_ | refine pw_region (fun _ => false) hmix ?_ | (refine wpG_split rfl rfl (fun hc => ?_) (fun hc => ?_) <;> try simp only [hcL, reduceCtorEq] at hc) | (refine pw_cond _ rfl rfl (fun hc => ?_) (fun hc => ?_) <;> (try simp only [hcL, reduceCtorEq] at hc) <;> try (exfalso; omega)) | simp (maxSteps := 1000000) (disch := omega) only [go_sem, simprocAttr] | apply And.intro | omega | decide +kernel
     refine ⟨i + 1, ?_, eL [] _ _ (by refine ⟨?_, ?_⟩ <;> (repeat' first | exact List.forall_mem_nil _ | refine List.forall_mem_cons.2 ⟨(by first | rfl | (simp (disch := omega) only [go_sem, simprocAttr, inL, e1, Int.natCast_add]; first | done | omega | (congr 1; done))), ?_⟩); done), ?_⟩
     ·omega
     ·omega
  ·have : i = p.length := by omega
   subst this
   try dsimp only
   rw [List.take_length]
   repeat' first | refine pw_seq ?_ | refine pw_skip ?_ | refine pw_ret ?_ | refine pw_exit ?_ | refine pw_block ?_ | refine pw_region (fun _ => false) hmix ?_ | (refine wpG_split rfl rfl (fun hc => ?_) (fun hc => ?_) <;> try simp only [hcL, reduceCtorEq] at hc) | (refine pw_cond _ rfl rfl (fun hc => ?_) (fun hc => ?_) <;> (try simp only [hcL, reduceCtorEq] at hc) <;> try (exfalso; omega)) | simp (maxSteps := 1000000) (disch := omega) only [go_sem, simprocAttr] | apply And.intro | omega | decide +kernel
   exact int_some rfl
theorem exists_spec (a : Lv) (i : Int) : CallsTo Try.prog 72 [lvD a, .int i] (.bool (decide (0 ≤ i ∧ i < a.2.1.length))) := by
 obtain ⟨n, ls, ar, cs⟩ := a
 refine callsTo_of Try.func72 rfl (by decide +kernel) (Nat.le_of_ble_eq_true rfl) ?_
 intro hat B X w0
 have hl := at_len2 0 1 hat rfl rfl
 rw [List.length_map] at hl
 dsimp only at hl
 by_cases c : 0 ≤ i
 ·repeat' first | refine pw_seq ?_ | refine pw_skip ?_ | refine pw_ret ?_ | refine pw_exit ?_ | refine pw_block ?_ | refine pw_region (fun _ => false) hmix ?_ | (refine wpG_split rfl rfl (fun hc => ?_) (fun hc => ?_) <;> try simp only [hcL, reduceCtorEq] at hc) | (refine pw_cond _ rfl rfl (fun hc => ?_) (fun hc => ?_) <;> (try simp only [hcL, reduceCtorEq] at hc) <;> try (exfalso; omega)) | simp (maxSteps := 1000000) (disch := omega) only [go_sem, simprocAttr, c] | apply And.intro | omega | decide +kernel
  refine bool_some ?_
  simp [c]
 ·repeat' first | refine pw_seq ?_ | refine pw_skip ?_ | refine pw_ret ?_ | refine pw_exit ?_ | refine pw_block ?_ | refine pw_region (fun _ => false) hmix ?_ | (refine wpG_split rfl rfl (fun hc => ?_) (fun hc => ?_) <;> try simp only [hcL, reduceCtorEq] at hc) | (refine pw_cond _ rfl rfl (fun hc => ?_) (fun hc => ?_) <;> (try simp only [hcL, reduceCtorEq] at hc) <;> try (exfalso; omega)) | simp (maxSteps := 1000000) (disch := omega) only [go_sem, simprocAttr, c] | apply And.intro | omega | decide +kernel
  refine bool_some ?_
  simp [c]
def lstN (l : List (List Int)) (k : Nat) : List Int := (l[k]?).getD []
def cellF (at_ : List (List Int)) (a b : Nat) : Int := if a = b then 0 else behindF (lstN at_ a) (lstN at_ b)
def matF (at_ : List (List Int)) : List (List Int) := (List.range at_.length).map fun a => (List.range at_.length).map fun b => cellF at_ a b
def matOk (a : Lv) (i f : Int) : Bool := validF a && decide (0 ≤ i ∧ i < a.2.1.length) && decide (0 ≤ f ∧ f < a.2.1.length) && decide (f = i - 1 ∨ f = i + 1)
def lenAt (a : Lv) (i : Int) : Nat := ((a.2.1[i.toNat]?).getD []).length
def MatrixF (a : Lv) (i f : Int) : List (List Int) := if matOk a i f then matF (endsF a.2.1 a.2.2.1 i f (lenAt a i)) else []
def fillC (at_ : List (List Int)) (a k : Nat) : List Int := fillRow (fun b => cellF at_ a b) at_.length k
set_option maxHeartbeats 8000000 in
theorem Matrix_main (a : Lv) (i f : Nat) (hw : wide a) (hv : validF a = true) (hi : i < a.2.1.length) (hf : f < a.2.1.length) (hif : (f : Int) = i - 1 ∨ (f : Int) = i + 1) :
  CallsTo Try.prog 73 [lvD a, .int i, .int f] (listsD (matF (endsF a.2.1 a.2.2.1 i f (lenAt a i)))) := by
 have h1 := LvValid_spec a hw
 rw [hv] at h1
 have h2 := exists_spec a i
 have h3 := exists_spec a f
 rw [decide_eq_true (by omega)] at h2 h3
 obtain ⟨y, hy⟩ := get_some hi
 have h4 := ends_spec a i f y hv hy
 have hla : lenAt a i = y.length := by rw [lenAt, Int.toNat_natCast, hy]; rfl
 rw [hla]
 obtain ⟨t1, t2⟩ := lv_le hv
 have hyl := tot_mem (List.mem_of_getElem? hy)
 obtain ⟨s1, _, _⟩ := lv_sizes hv
 have hEl : (endsF a.2.1 a.2.2.1 i f y.length).length = y.length := by simp [endsF]
 have hEn : ∀ p ∈ endsF a.2.1 a.2.2.1 i f y.length, p.length ≤ 1000 := by
  intro p hp
  simp only [endsF, List.mem_map, List.mem_range] at hp
  obtain ⟨k, _, rfl⟩ := hp
  have := endsN_len a.2.1 a.2.2.1 i f k a.2.2.1.length
  omega
 generalize endsF a.2.1 a.2.2.1 i f y.length = E at *
 obtain ⟨N, hN⟩ : ∃ N, N = E.length := ⟨_, rfl⟩
 have hN5 : N ≤ 512 := by omega
 have hbh : ∀ (u v : Nat) p q, E[u]? = some p → E[v]? = some q → CallsTo Try.prog 83 [intsD p, intsD q] (.int (behindF p q)) := fun u v p q hu hv => behind_spec p q (hEn p (List.mem_of_getElem? hu)) (hEn q (List.mem_of_getElem? hv))
 obtain ⟨n, ls, ar, cs⟩ := a
 dsimp only at *
 refine callsTo_of Try.func73 rfl (by decide +kernel) (Nat.le_of_ble_eq_true rfl) ?_
 intro hat B X w0
 rcases hif with hif | hif
 all_goals
  repeat' first | refine pw_seq ?_ | refine pw_skip ?_ | refine pw_ret ?_ | refine pw_exit ?_ | refine pw_block ?_ | refine pw_region (fun _ => false) hmix ?_ | (refine rc (h1) rfl ?_ ?_; (· first | rfl | (simp (disch := omega) only [go_sem, simprocAttr, hif, List.append_eq, ← hN]; done))) | (refine rc (h2) rfl ?_ ?_; (· first | rfl | (simp (disch := omega) only [go_sem, simprocAttr, hif, List.append_eq, ← hN]; done))) | (refine rc (h3) rfl ?_ ?_; (· first | rfl | (simp (disch := omega) only [go_sem, simprocAttr, hif, List.append_eq, ← hN]; done))) | (refine rc (h4) rfl ?_ ?_; (· first | rfl | (simp (disch := omega) only [go_sem, simprocAttr, hif, List.append_eq, ← hN]; done))) | (refine wpG_split rfl rfl (fun hc => ?_) (fun hc => ?_) <;> try simp only [hcL, reduceCtorEq] at hc) | (refine pw_cond _ rfl rfl (fun hc => ?_) (fun hc => ?_) <;> (try simp only [hcL, reduceCtorEq] at hc) <;> try (exfalso; omega)) | simp (maxSteps := 1000000) (disch := omega) only [go_sem, simprocAttr, hif, List.append_eq, ← hN] | apply And.intro | omega | decide +kernel
  refine pw_ent _ (ent_famNew 1 44 1 N rfl (fun i hi => by simp (disch := omega) only [go_sem, simprocAttr, obOf_fid, argEnv]) (by decide) (by decide)) ?_
  refine pw_loopF (κ := Nat) (fun (u : Nat) => u ≤ N) (fun (u : Nat) => [(3, .ptr 3 0 0 0), (7, .d (listsD E)), (8, .ref 44 1 0 N N), (46, .int N), (47, .int u)]) (fun (u : Nat) => [⟨1, 44, 1, N, fun k => if k < u then (fillC E k N).map D.int else []⟩]) (fun (u : Nat) => [(3, .cells [.int n, .d (listsD ls), .d (arcsD ar), .d (listsD cs)])]) (fun (u : Nat) => N - u) 0 ?_ ?_ ?_
  ·exact Nat.zero_le _
  ·refine eF [] [] _ _ _ (by refine ⟨?_, ?_⟩ <;> (repeat' first | exact List.forall_mem_nil _ | refine List.forall_mem_cons.2 ⟨(by first | rfl | (simp (disch := omega) only [go_sem, simprocAttr, inL, ← hN]; first | done | omega | (congr 1; done))), ?_⟩); done) ?_
   repeat' first | exact List.forall_mem_nil _ | refine List.forall_mem_cons.2 ⟨?_, ?_⟩
   all_goals refine ⟨_, (by first | rfl | (simp (disch := omega) only [go_sem, simprocAttr, Nat.not_lt_zero]; done) | (simp (disch := omega) only [go_sem, simprocAttr, Nat.not_lt_zero]; rfl)), fun i hi => ?_⟩
   all_goals dsimp only at hi ⊢
   all_goals try (exfalso; omega)
   all_goals try (simp (disch := omega) only [go_sem, simprocAttr, Nat.not_lt_zero, fid_lit, lit_fid]; done)
  ·intro u hu
   rcases Nat.lt_or_ge u N with hlt | hge
   ·obtain ⟨eu, heu⟩ := get_some (l := E) (k := u) (by omega)
    have hz : List.replicate N (D.int 0) = (fillC E u 0).map D.int := by rw [fillC, fillRow_zero, hN]
    have hnu : ¬ u < u := by omega
    refine pw_ent _ (ent_bor _ _ [3, 44] 44 u 900 1 1 N (by first | rfl | (simp (disch := omega) only [go_sem, simprocAttr, hnu]; done) | (simp (disch := omega) only [go_sem, simprocAttr, hnu]; rfl)) (by first | (simp (disch := omega) only [go_sem, simprocAttr, hnu]; done) | (simp (disch := omega) only [go_sem, simprocAttr, hnu]; rfl)) (by first | (simp (disch := omega) only [go_sem, simprocAttr, hnu]; done) | (simp (disch := omega) only [go_sem, simprocAttr, hnu]; rfl)) (fun i hi hne => by simp (disch := omega) only [go_sem, simprocAttr, hne, hnu]; (repeat' split) <;> exact .ref _ _ _ _ _ ⟨by simp (disch := omega) only [go_sem, simprocAttr, hne, hnu], by simp (disch := omega) only [go_sem, simprocAttr, hne, hnu]⟩) (by (repeat' first | refine ab_nil ?_ | exact ab_obOf (ids := [3, 44]) rfl rfl (Nat.le_of_ble_eq_true rfl) | refine ab_hole ?_ | refine ab_row ?_ | refine ab_dead ?_ | refine ab_self ?_ | refine ab_self_fam ?_ | refine ab_fam (by dsimp only; omega) (by dsimp only; omega) (by omega) (by omega) (Nat.le_of_ble_eq_true rfl) ?_); done) rfl rfl rfl) ?_
    repeat' first | refine pw_seq ?_ | refine pw_skip ?_ | refine pw_ret ?_ | refine pw_exit ?_ | refine pw_block ?_ | refine pw_region (Nat.beq 54) hmix ?_ | (refine wpG_split rfl rfl (fun hc => ?_) (fun hc => ?_) <;> try simp only [hcL, reduceCtorEq] at hc) | (refine pw_cond _ rfl rfl (fun hc => ?_) (fun hc => ?_) <;> (try simp only [hcL, reduceCtorEq] at hc) <;> try (exfalso; omega)) | simp (maxSteps := 1000000) (disch := omega) only [go_sem, simprocAttr, ← hN, hnu] | apply And.intro | omega | decide +kernel
    refine pw_loopF (κ := Nat) (fun (b : Nat) => b ≤ N) (fun (b : Nat) => [(3, .ptr 3 0 0 0), (7, .d (listsD E)), (8, .ref 44 1 0 N N), (9, .int u), (46, .int N), (47, .int u), (57, .int N), (58, .int b)]) (fun (b : Nat) => [⟨1, 44, 1, N, fun k => if k < u then (fillC E k N).map D.int else if k = u then (fillC E u b).map D.int else []⟩]) (fun (b : Nat) => [(3, .cells [.int n, .d (listsD ls), .d (arcsD ar), .d (listsD cs)])]) (fun (b : Nat) => N - b) 0 ?_ ?_ ?_
    ·exact Nat.zero_le _
    ·refine eF [(fid 1 u, 54)] [] _ _ _ (by refine ⟨?_, ?_⟩ <;> (repeat' first | exact List.forall_mem_nil _ | refine List.forall_mem_cons.2 ⟨(by first | rfl | (simp (disch := omega) only [go_sem, simprocAttr, inL, ← hN]; first | done | omega | (congr 1; done))), ?_⟩); done) ?_
     repeat' first | exact List.forall_mem_nil _ | refine List.forall_mem_cons.2 ⟨?_, ?_⟩
     all_goals refine ⟨_, (by first | rfl | (simp (disch := omega) only [go_sem, simprocAttr, hz, fillRow_len, fillC, List.length_map, ← hN, hnu]; done) | (simp (disch := omega) only [go_sem, simprocAttr, hz, fillRow_len, fillC, List.length_map, ← hN, hnu]; rfl)), fun i hi => ?_⟩
     all_goals dsimp only at hi ⊢
     all_goals rcases Decidable.em (i = u) with rfl | hi0
     all_goals try (exfalso; omega)
     all_goals try (simp (disch := omega) only [go_sem, simprocAttr, hz, fillRow_len, fillC, List.length_map, ← hN, hnu, fid_lit, lit_fid]; done)
     all_goals try (simp (disch := omega) only [go_sem, simprocAttr, hz, fillRow_len, fillC, List.length_map, ← hN, hnu, hi0, fid_lit, lit_fid]; done)
    ·intro b hb
     have hfl := fillRow_len (fun b => cellF E u b) E.length b
     rw [← hN] at hfl
     rcases Nat.lt_or_ge b N with hlb | hgb
     ·obtain ⟨eb, heb⟩ := get_some (l := E) (k := b) (by omega)
      have hg : (fillC E u b)[b]? = some 0 := by rw [fillC, fillRow_get (by omega), if_neg (by omega)]
      have hst : (fillC E u b).set b (cellF E u b) = fillC E u (b + 1) := fillRow_step (g := fun b => cellF E u b) (by omega)
      have hbe := hbh u b eu eb heu heb
      have hfl2 : (fillC E u b).length = N := by rw [fillC, fillRow_len, hN]
      by_cases c : u = b
      ·have hcell : cellF E u b = 0 := by rw [cellF, if_pos c]
       have hst2 : fillC E u (b + 1) = fillC E u b := by
        rw [← hst, hcell]
        refine List.ext_getElem? fun v => ?_
        rw [List.getElem?_set]
        split
        ·rename_i hv2; subst hv2; rw [hg, if_pos (by omega)]
        ·rfl
       have cI : (u : Int) = b := by omega
       repeat' first | refine pw_seq ?_ | refine pw_skip ?_ | refine pw_ret ?_ | refine pw_exit ?_ | refine pw_block ?_ | refine pw_region (fun _ => false) hmix ?_ | (refine wpG_split rfl rfl (fun hc => ?_) (fun hc => ?_) <;> try simp only [hcL, reduceCtorEq] at hc) | (refine pw_cond _ rfl rfl (fun hc => ?_) (fun hc => ?_) <;> (try simp only [hcL, reduceCtorEq] at hc) <;> try (exfalso; omega)) | simp (maxSteps := 1000000) (disch := omega) only [go_sem, simprocAttr, ← hN, cI] | apply And.intro | omega | decide +kernel
       refine ⟨b + 1, ?_, eF [] [] _ _ _ (by refine ⟨?_, ?_⟩ <;> (repeat' first | exact List.forall_mem_nil _ | refine List.forall_mem_cons.2 ⟨(by first | rfl | (simp (disch := omega) only [go_sem, simprocAttr, inL]; first | done | omega | (congr 1; done))), ?_⟩); done) ?_, ?_⟩
       ·omega
       ·repeat' first | exact List.forall_mem_nil _ | refine List.forall_mem_cons.2 ⟨?_, ?_⟩
        all_goals refine ⟨_, (by first | rfl | (simp (disch := omega) only [go_sem, simprocAttr, hst2, hnu]; done) | (simp (disch := omega) only [go_sem, simprocAttr, hst2, hnu]; rfl)), fun i hi => ?_⟩
        all_goals dsimp only at hi ⊢
        all_goals rcases Decidable.em (i = u) with rfl | hi0
        all_goals try (exfalso; omega)
        all_goals try (simp (disch := omega) only [go_sem, simprocAttr, hst2, hnu, fid_lit, lit_fid]; done)
        all_goals try (simp (disch := omega) only [go_sem, simprocAttr, hst2, hnu, hi0, fid_lit, lit_fid]; done)
       ·omega
      ·have hcell : cellF E u b = behindF eu eb := by rw [cellF, if_neg c, lstN, lstN, heu, heb]; rfl
       have cI : ¬ (u : Int) = b := by omega
       rw [hcell] at hst
       refine pw_ent _ (ent_bor _ _ [3, 44] 44 u 900 1 1 N (by first | rfl | (simp (disch := omega) only [go_sem, simprocAttr, hnu, hfl2]; done) | (simp (disch := omega) only [go_sem, simprocAttr, hnu, hfl2]; rfl)) (by first | (simp (disch := omega) only [go_sem, simprocAttr, hnu, hfl2]; done) | (simp (disch := omega) only [go_sem, simprocAttr, hnu, hfl2]; rfl)) (by first | (simp (disch := omega) only [go_sem, simprocAttr, hnu, hfl2]; done) | (simp (disch := omega) only [go_sem, simprocAttr, hnu, hfl2]; rfl)) (fun i hi hne => by simp (disch := omega) only [go_sem, simprocAttr, hne, hnu, hfl2]; (repeat' split) <;> exact .ref _ _ _ _ _ ⟨by simp (disch := omega) only [go_sem, simprocAttr, hne, hnu, hfl2], by simp (disch := omega) only [go_sem, simprocAttr, hne, hnu, hfl2]⟩) (by (repeat' first | refine ab_nil ?_ | exact ab_obOf (ids := [3, 44]) rfl rfl (Nat.le_of_ble_eq_true rfl) | refine ab_hole ?_ | refine ab_row ?_ | refine ab_dead ?_ | refine ab_self ?_ | refine ab_self_fam ?_ | refine ab_fam (by dsimp only; omega) (by dsimp only; omega) (by omega) (by omega) (Nat.le_of_ble_eq_true rfl) ?_); done) rfl rfl rfl) ?_
       repeat' first | refine pw_seq ?_ | refine pw_skip ?_ | refine pw_ret ?_ | refine pw_exit ?_ | refine pw_block ?_ | refine pw_region (fun _ => false) hmix ?_ | (refine rc (hbe) rfl ?_ ?_; (· first | rfl | (simp (disch := omega) only [go_sem, simprocAttr, ← hN, cI, heu, heb, hg, hfl2, hnu]; done))) | (refine wpG_split rfl rfl (fun hc => ?_) (fun hc => ?_) <;> try simp only [hcL, reduceCtorEq] at hc) | (refine pw_cond _ rfl rfl (fun hc => ?_) (fun hc => ?_) <;> (try simp only [hcL, reduceCtorEq] at hc) <;> try (exfalso; omega)) | simp (maxSteps := 1000000) (disch := omega) only [go_sem, simprocAttr, ← hN, cI, heu, heb, hg, hfl2, hnu] | apply And.intro | omega | decide +kernel
       refine ⟨b + 1, ?_, eF [(fid 1 u, 900)] [] _ _ _ (by refine ⟨?_, ?_⟩ <;> (repeat' first | exact List.forall_mem_nil _ | refine List.forall_mem_cons.2 ⟨(by first | rfl | (simp (disch := omega) only [go_sem, simprocAttr, inL]; first | done | omega | (congr 1; done))), ?_⟩); done) ?_, ?_⟩
       ·omega
       ·repeat' first | exact List.forall_mem_nil _ | refine List.forall_mem_cons.2 ⟨?_, ?_⟩
        all_goals refine ⟨_, (by first | rfl | (simp (disch := omega) only [go_sem, simprocAttr, hst.symm, List.map_set, List.length_set, List.length_map, hfl2, hnu]; done) | (simp (disch := omega) only [go_sem, simprocAttr, hst.symm, List.map_set, List.length_set, List.length_map, hfl2, hnu]; rfl)), fun i hi => ?_⟩
        all_goals dsimp only at hi ⊢
        all_goals rcases Decidable.em (i = u) with rfl | hi0
        all_goals try (exfalso; omega)
        all_goals try (simp (disch := omega) only [go_sem, simprocAttr, hst.symm, List.map_set, List.length_set, List.length_map, hfl2, hnu, fid_lit, lit_fid]; done)
        all_goals try (simp (disch := omega) only [go_sem, simprocAttr, hst.symm, List.map_set, List.length_set, List.length_map, hfl2, hnu, hi0, fid_lit, lit_fid]; done)
       ·omega
     ·have : b = N := by omega
      subst this
      have hsu : ∀ i, i ≠ u → ((i < u + 1) = (i < u)) := fun i h => propext (by omega)
      repeat' first | refine pw_seq ?_ | refine pw_skip ?_ | refine pw_ret ?_ | refine pw_exit ?_ | refine pw_block ?_ | refine pw_region (fun _ => false) hmix ?_ | (refine wpG_split rfl rfl (fun hc => ?_) (fun hc => ?_) <;> try simp only [hcL, reduceCtorEq] at hc) | (refine pw_cond _ rfl rfl (fun hc => ?_) (fun hc => ?_) <;> (try simp only [hcL, reduceCtorEq] at hc) <;> try (exfalso; omega)) | simp (maxSteps := 1000000) (disch := omega) only [go_sem, simprocAttr] | apply And.intro | omega | decide +kernel
      refine ⟨u + 1, ?_, eF [] [] _ _ _ (by refine ⟨?_, ?_⟩ <;> (repeat' first | exact List.forall_mem_nil _ | refine List.forall_mem_cons.2 ⟨(by first | rfl | (simp (disch := omega) only [go_sem, simprocAttr, inL]; first | done | omega | (congr 1; done))), ?_⟩); done) ?_, ?_⟩
      ·omega
      ·repeat' first | exact List.forall_mem_nil _ | refine List.forall_mem_cons.2 ⟨?_, ?_⟩
       all_goals refine ⟨_, (by first | rfl | (simp (disch := omega) only [go_sem, simprocAttr, hnu, hsu, Nat.lt_add_one]; done) | (simp (disch := omega) only [go_sem, simprocAttr, hnu, hsu, Nat.lt_add_one]; rfl)), fun i hi => ?_⟩
       all_goals dsimp only at hi ⊢
       all_goals rcases Decidable.em (i = u) with rfl | hi0
       all_goals try (exfalso; omega)
       all_goals try (simp (disch := omega) only [go_sem, simprocAttr, hnu, hsu, Nat.lt_add_one, fid_lit, lit_fid]; done)
       all_goals try (simp (disch := omega) only [go_sem, simprocAttr, hnu, hsu, Nat.lt_add_one, hi0, fid_lit, lit_fid]; done)
      ·omega
   ·have : u = N := by omega
    subst this
    try dsimp only
    refine pw_ent _ (ent_famRow _ _ _ _ ⟨nodup_of rfl, nodup_of rfl, (by (repeat' first | exact List.forall_mem_nil _ | refine List.forall_mem_cons.2 ⟨⟨Nat.le_of_ble_eq_true rfl, Nat.le_of_ble_eq_true rfl, by dsimp only; omega⟩, ?_⟩); done)⟩ rfl [3, 44] rfl rfl rfl rfl) ?_
    repeat' first | refine pw_seq ?_ | refine pw_skip ?_ | refine pw_ret ?_ | refine pw_exit ?_ | refine pw_block ?_ | refine pw_region (fun _ => false) hmix ?_ | (refine wpG_split rfl rfl (fun hc => ?_) (fun hc => ?_) <;> try simp only [hcL, reduceCtorEq] at hc) | (refine pw_cond _ rfl rfl (fun hc => ?_) (fun hc => ?_) <;> (try simp only [hcL, reduceCtorEq] at hc) <;> try (exfalso; omega)) | simp (maxSteps := 1000000) (disch := omega) only [go_sem, simprocAttr] | apply And.intro | omega | decide +kernel
    refine ret_ref (o := 44) rfl rfl (by simp) ?_
    rw [List.take_of_length_le (by simp), matF, ← hN, List.map_map]
    refine List.map_congr_left fun k hk => ?_
    rw [if_pos (List.mem_range.1 hk), fillC, ← hN, fillRow_end]
    rfl
end Go.Proofs.Ytldbcbclhpcofaa
namespace Go.Proofs.Ytldbcbclhpcofaa
open Go Go.PS Go.Proofs
set_option maxRecDepth 100000
attribute [local irreducible] wpRun wpG CallsTo CallsM

set_option maxHeartbeats 4000000 in
theorem Matrix_no (a : Lv) (i f : Int) (hw : wide a) (hm : matOk a i f = false) : CallsTo Try.prog 73 [lvD a, .int i, .int f] (listsD []) := by
 have h1 := LvValid_spec a hw
 have h2 := exists_spec a i
 have h3 := exists_spec a f
 rw [matOk] at hm
 rcases c1 : validF a with _ | _ <;> rw [c1] at h1 hm
 ·refine callsTo_of Try.func73 rfl (by decide +kernel) (Nat.le_of_ble_eq_true rfl) ?_
  intro hat B X w0
  repeat' first | refine pw_seq ?_ | refine pw_skip ?_ | refine pw_ret ?_ | refine pw_exit ?_ | refine pw_block ?_ | refine pw_region (fun _ => false) hmix ?_ | (refine rc (h1) rfl ?_ ?_; (· first | rfl | (simp (disch := omega) only [go_sem, simprocAttr, List.append_eq]; done))) | (refine wpG_split rfl rfl (fun hc => ?_) (fun hc => ?_) <;> try simp only [hcL, reduceCtorEq] at hc) | (refine pw_cond _ rfl rfl (fun hc => ?_) (fun hc => ?_) <;> (try simp only [hcL, reduceCtorEq] at hc) <;> try (exfalso; omega)) | simp (maxSteps := 1000000) (disch := omega) only [go_sem, simprocAttr, List.append_eq] | apply And.intro | omega | decide +kernel
  exact sl_some rfl
 ·by_cases c2 : 0 ≤ i ∧ i < a.2.1.length
  ·rw [decide_eq_true c2] at h2 hm
   by_cases c3 : 0 ≤ f ∧ f < a.2.1.length
   ·rw [decide_eq_true c3] at h3 hm
    have c4 : ¬ (f = i - 1 ∨ f = i + 1) := by simpa using hm
    have d1 : ¬ f = i - 1 := fun h => c4 (.inl h)
    have d2 : ¬ f = i + 1 := fun h => c4 (.inr h)
    obtain ⟨t1, t2⟩ := lv_le c1
    refine callsTo_of Try.func73 rfl (by decide +kernel) (Nat.le_of_ble_eq_true rfl) ?_
    intro hat B X w0
    repeat' first | refine pw_seq ?_ | refine pw_skip ?_ | refine pw_ret ?_ | refine pw_exit ?_ | refine pw_block ?_ | refine pw_region (fun _ => false) hmix ?_ | (refine rc (h1) rfl ?_ ?_; (· first | rfl | (simp (disch := omega) only [go_sem, simprocAttr, List.append_eq, d1, d2]; done))) | (refine rc (h2) rfl ?_ ?_; (· first | rfl | (simp (disch := omega) only [go_sem, simprocAttr, List.append_eq, d1, d2]; done))) | (refine rc (h3) rfl ?_ ?_; (· first | rfl | (simp (disch := omega) only [go_sem, simprocAttr, List.append_eq, d1, d2]; done))) | (refine wpG_split rfl rfl (fun hc => ?_) (fun hc => ?_) <;> try simp only [hcL, reduceCtorEq] at hc) | (refine pw_cond _ rfl rfl (fun hc => ?_) (fun hc => ?_) <;> (try simp only [hcL, reduceCtorEq] at hc) <;> try (exfalso; omega)) | simp (maxSteps := 1000000) (disch := omega) only [go_sem, simprocAttr, List.append_eq, d1, d2] | apply And.intro | omega | decide +kernel
    exact sl_some rfl
   ·rw [decide_eq_false c3] at h3
    refine callsTo_of Try.func73 rfl (by decide +kernel) (Nat.le_of_ble_eq_true rfl) ?_
    intro hat B X w0
    repeat' first | refine pw_seq ?_ | refine pw_skip ?_ | refine pw_ret ?_ | refine pw_exit ?_ | refine pw_block ?_ | refine pw_region (fun _ => false) hmix ?_ | (refine rc (h1) rfl ?_ ?_; (· first | rfl | (simp (disch := omega) only [go_sem, simprocAttr, List.append_eq]; done))) | (refine rc (h2) rfl ?_ ?_; (· first | rfl | (simp (disch := omega) only [go_sem, simprocAttr, List.append_eq]; done))) | (refine rc (h3) rfl ?_ ?_; (· first | rfl | (simp (disch := omega) only [go_sem, simprocAttr, List.append_eq]; done))) | (refine wpG_split rfl rfl (fun hc => ?_) (fun hc => ?_) <;> try simp only [hcL, reduceCtorEq] at hc) | (refine pw_cond _ rfl rfl (fun hc => ?_) (fun hc => ?_) <;> (try simp only [hcL, reduceCtorEq] at hc) <;> try (exfalso; omega)) | simp (maxSteps := 1000000) (disch := omega) only [go_sem, simprocAttr, List.append_eq] | apply And.intro | omega | decide +kernel
    exact sl_some rfl
  ·rw [decide_eq_false c2] at h2
   refine callsTo_of Try.func73 rfl (by decide +kernel) (Nat.le_of_ble_eq_true rfl) ?_
   intro hat B X w0
   repeat' first | refine pw_seq ?_ | refine pw_skip ?_ | refine pw_ret ?_ | refine pw_exit ?_ | refine pw_block ?_ | refine pw_region (fun _ => false) hmix ?_ | (refine rc (h1) rfl ?_ ?_; (· first | rfl | (simp (disch := omega) only [go_sem, simprocAttr, List.append_eq]; done))) | (refine rc (h2) rfl ?_ ?_; (· first | rfl | (simp (disch := omega) only [go_sem, simprocAttr, List.append_eq]; done))) | (refine rc (h3) rfl ?_ ?_; (· first | rfl | (simp (disch := omega) only [go_sem, simprocAttr, List.append_eq]; done))) | (refine wpG_split rfl rfl (fun hc => ?_) (fun hc => ?_) <;> try simp only [hcL, reduceCtorEq] at hc) | (refine pw_cond _ rfl rfl (fun hc => ?_) (fun hc => ?_) <;> (try simp only [hcL, reduceCtorEq] at hc) <;> try (exfalso; omega)) | simp (maxSteps := 1000000) (disch := omega) only [go_sem, simprocAttr, List.append_eq] | apply And.intro | omega | decide +kernel
   exact sl_some rfl
theorem Matrix_spec (a : Lv) (i f : Int) (hw : wide a) : CallsTo Try.prog 73 [lvD a, .int i, .int f] (listsD (MatrixF a i f)) := by
 rcases h : matOk a i f with _ | _
 ·rw [MatrixF, h, if_neg (by decide)]
  exact Matrix_no a i f hw h
 ·have e : MatrixF a i f = matF (endsF a.2.1 a.2.2.1 i f (lenAt a i)) := by rw [MatrixF, h, if_pos rfl]
  rw [e]
  simp only [matOk, Bool.and_eq_true, decide_eq_true_eq] at h
  obtain ⟨⟨⟨h1, h2⟩, h3⟩, h4⟩ := h
  obtain ⟨i, rfl⟩ : ∃ n : Nat, i = n := ⟨i.toNat, by omega⟩
  obtain ⟨f, rfl⟩ : ∃ n : Nat, f = n := ⟨f.toNat, by omega⟩
  exact Matrix_main a i f hw h1 (by omega) (by omega) h4
def sumZ (f : Nat → Int) : Nat → Int
 | 0 => 0
 | k + 1 => sumZ f k + f k
theorem sumZ_bound {f : Nat → Int} {c : Nat} : ∀ n, (∀ k, k < n → 0 ≤ f k ∧ f k ≤ c) → 0 ≤ sumZ f n ∧ sumZ f n ≤ ((n * c : Nat) : Int)
 | 0, _ => by simp [sumZ]
 | n + 1, h => by
  have ih := sumZ_bound n fun k hk => h k (by omega)
  have := h n (by omega)
  rw [sumZ, Nat.add_mul]; omega
theorem sumZ_congr {f g : Nat → Int} : ∀ n, (∀ k, k < n → f k = g k) → sumZ f n = sumZ g n
 | 0, _ => rfl
 | n + 1, h => by rw [sumZ, sumZ, sumZ_congr n fun k hk => h k (by omega), h n (by omega)]
def cellAt (m : List (List Int)) (b a : Nat) : Int := at0 (lstN m b) a
def triF (m : List (List Int)) : Int := sumZ (fun a => sumZ (fun b => cellAt m b a) a) m.length
structure Sq (m : List (List Int)) : Prop where
 len : m.length ≤ 600
 row : ∀ p, p ∈ m → p.length = m.length
 val : ∀ p, p ∈ m → ∀ x, x ∈ p → 0 ≤ x ∧ x ≤ 1000000
theorem Sq.get {m : List (List Int)} (h : Sq m) {b a : Nat} (hb : b < m.length) (ha : a < m.length) : ∃ p, m[b]? = some p ∧ p.length = m.length ∧ p[a]? = some (cellAt m b a) ∧ 0 ≤ cellAt m b a ∧ cellAt m b a ≤ 1000000 := by
 obtain ⟨p, hp⟩ := get_some hb
 have hl := h.row p (List.mem_of_getElem? hp)
 have hg := at0_at (r := p) (i := a) (by omega)
 have e : cellAt m b a = at0 p a := by rw [cellAt, lstN, hp]; rfl
 rw [← e] at hg
 exact ⟨p, hp, hl, hg, h.val p (List.mem_of_getElem? hp) _ (List.mem_of_getElem? hg)⟩
theorem Sq.nil : Sq [] := ⟨by simp, by simp, by simp⟩
theorem MatrixF_sq (a : Lv) (i f : Int) : Sq (MatrixF a i f) := by
 rw [MatrixF]
 split
 ·rename_i h
  simp only [matOk, Bool.and_eq_true, decide_eq_true_eq] at h
  obtain ⟨⟨⟨h1, h2⟩, h3⟩, h4⟩ := h
  obtain ⟨t1, t2⟩ := lv_le h1
  obtain ⟨s1, _, _⟩ := lv_sizes h1
  obtain ⟨y, hy⟩ := get_some (l := a.2.1) (k := i.toNat) (by omega)
  have hyl := tot_mem (List.mem_of_getElem? hy)
  have hla : lenAt a i = y.length := by rw [lenAt, hy]; rfl
  have hEn : ∀ k, (lstN (endsF a.2.1 a.2.2.1 i f (lenAt a i)) k).length ≤ 1000 := by
   intro k
   rw [lstN]
   cases hk : (endsF a.2.1 a.2.2.1 i f (lenAt a i))[k]? with
   | none => simp
   | some p =>
    have hp := List.mem_of_getElem? hk
    simp only [endsF, List.mem_map, List.mem_range] at hp
    obtain ⟨k, _, rfl⟩ := hp
    have := endsN_len a.2.1 a.2.2.1 i f k a.2.2.1.length
    simp only [Option.getD_some]; omega
  have hEl : (endsF a.2.1 a.2.2.1 i f (lenAt a i)).length = y.length := by simp [endsF, hla]
  generalize endsF a.2.1 a.2.2.1 i f (lenAt a i) = E at *
  refine ⟨by simp [matF, hEl]; omega, fun p hp => ?_, fun p hp x hx => ?_⟩
  ·simp only [matF, List.mem_map, List.mem_range] at hp
   obtain ⟨k, _, rfl⟩ := hp
   simp [matF]
  ·simp only [matF, List.mem_map, List.mem_range] at hp
   obtain ⟨k, _, rfl⟩ := hp
   obtain ⟨j, _, rfl⟩ := List.mem_map.1 hx
   rw [cellF]
   split
   ·omega
   ·have h1 := behindF_le (lstN E k) (lstN E j)
    have h2 : (lstN E k).length * (lstN E j).length ≤ 1000 * 1000 := Nat.mul_le_mul (hEn k) (hEn j)
    omega
 ·exact Sq.nil
def noPair (a : Lv) (i : Int) : Bool := decide (¬ (0 ≤ i ∧ i < a.2.1.length) ∨ i = (a.2.1.length : Int) - 1)
def BetweenF (a : Lv) (i : Int) : Int := if noPair a i then 0 else triF (MatrixF a i (i + 1))
theorem tri_inner {m : List (List Int)} (h : Sq m) {x : Nat} (hx : x < m.length) : ∀ k, k ≤ x → 0 ≤ sumZ (fun b => cellAt m b x) k ∧ sumZ (fun b => cellAt m b x) k ≤ 600 * 1000000 := fun k hk => by
 have := sumZ_bound (f := fun b => cellAt m b x) (c := 1000000) k fun b hb => by obtain ⟨_, _, _, _, h5⟩ := h.get (b := b) (a := x) (by omega) hx; exact h5
 have := h.len
 have h2 : k * 1000000 ≤ 600 * 1000000 := Nat.mul_le_mul_right _ (by omega)
 omega
theorem tri_outer {m : List (List Int)} (h : Sq m) : ∀ k, k ≤ m.length → 0 ≤ sumZ (fun x => sumZ (fun b => cellAt m b x) x) k ∧ sumZ (fun x => sumZ (fun b => cellAt m b x) x) k ≤ 600 * 600000000 := fun k hk => by
 have := sumZ_bound (f := fun x => sumZ (fun b => cellAt m b x) x) (c := 600000000) k fun x hx => by have := tri_inner h (x := x) (by omega) x (Nat.le_refl _); omega
 have := h.len
 have h2 : k * 600000000 ≤ 600 * 600000000 := Nat.mul_le_mul_right _ (by omega)
 omega
set_option maxHeartbeats 4000000 in
theorem Between_spec (a : Lv) (i : Int) (hw : wide a) : CallsTo Try.prog 55 [lvD a, .int i] (.int (BetweenF a i)) := by
 have h2 := exists_spec a i
 have h3 := Matrix_spec a i (i + 1) hw
 rw [BetweenF, noPair]
 by_cases c1 : 0 ≤ i ∧ i < a.2.1.length
 ·rw [decide_eq_true c1] at h2
  by_cases c2 : i = (a.2.1.length : Int) - 1
  ·rw [if_pos (by simp [c2])]
   obtain ⟨n, ls, ar, cs⟩ := a
   dsimp only at c1 c2
   refine callsTo_of Try.func55 rfl (by decide +kernel) (Nat.le_of_ble_eq_true rfl) ?_
   intro hat B X w0
   have hl := at_len2 0 1 hat rfl rfl
   rw [List.length_map] at hl
   dsimp only at hl
   repeat' first | refine pw_seq ?_ | refine pw_skip ?_ | refine pw_ret ?_ | refine pw_exit ?_ | refine pw_block ?_ | refine pw_region (fun _ => false) hmix ?_ | (refine rc (h2) rfl ?_ ?_; (· first | rfl | (simp (disch := omega) only [go_sem, simprocAttr, ← c2]; done))) | (refine wpG_split rfl rfl (fun hc => ?_) (fun hc => ?_) <;> try simp only [hcL, reduceCtorEq] at hc) | (refine pw_cond _ rfl rfl (fun hc => ?_) (fun hc => ?_) <;> (try simp only [hcL, reduceCtorEq] at hc) <;> try (exfalso; omega)) | simp (maxSteps := 1000000) (disch := omega) only [go_sem, simprocAttr, ← c2] | apply And.intro | omega | decide +kernel
   exact int_some rfl
  ·rw [if_neg (by simp; omega)]
   have hs := MatrixF_sq a i (i + 1)
   generalize MatrixF a i (i + 1) = m at h3 hs ⊢
   have hml := hs.len
   obtain ⟨n, ls, ar, cs⟩ := a
   dsimp only at c1 c2
   refine callsTo_of Try.func55 rfl (by decide +kernel) (Nat.le_of_ble_eq_true rfl) ?_
   intro hat B X w0
   have hl := at_len2 0 1 hat rfl rfl
   rw [List.length_map] at hl
   dsimp only at hl
   repeat' first | refine pw_seq ?_ | refine pw_skip ?_ | refine pw_ret ?_ | refine pw_exit ?_ | refine pw_block ?_ | refine pw_region (fun _ => false) hmix ?_ | (refine rc (h2) rfl ?_ ?_; (· first | rfl | (simp (disch := omega) only [go_sem, simprocAttr, c2]; done))) | (refine rc (h3) rfl ?_ ?_; (· first | rfl | (simp (disch := omega) only [go_sem, simprocAttr, c2]; done))) | (refine wpG_split rfl rfl (fun hc => ?_) (fun hc => ?_) <;> try simp only [hcL, reduceCtorEq] at hc) | (refine pw_cond _ rfl rfl (fun hc => ?_) (fun hc => ?_) <;> (try simp only [hcL, reduceCtorEq] at hc) <;> try (exfalso; omega)) | simp (maxSteps := 1000000) (disch := omega) only [go_sem, simprocAttr, c2] | apply And.intro | omega | decide +kernel
   refine pw_loopI (κ := Nat) (fun (x : Nat) => x ≤ m.length) (fun (x : Nat) => [(5, .int (sumZ (fun x => sumZ (fun b => cellAt m b x) x) x)), (6, .d (listsD m)), (27, .int m.length), (28, .int x)]) (fun (x : Nat) => []) (fun (x : Nat) => m.length - x) 0 ?_ ?_ ?_
   ·exact Nat.zero_le _
   ·exact eL [] _ _ (by refine ⟨?_, ?_⟩ <;> (repeat' first | exact List.forall_mem_nil _ | refine List.forall_mem_cons.2 ⟨(by first | rfl | (simp (disch := omega) only [go_sem, simprocAttr, inL, sumZ]; first | done | omega | (congr 1; done))), ?_⟩); done)
   ·intro x hx
    rcases Nat.lt_or_ge x m.length with hlt | hge
    ·have ho := tri_outer hs x (by omega)
     have ho2 := tri_outer hs (x + 1) (by omega)
     have e1 : sumZ (fun x => sumZ (fun b => cellAt m b x) x) (x + 1) = sumZ (fun x => sumZ (fun b => cellAt m b x) x) x + sumZ (fun b => cellAt m b x) x := rfl
     obtain ⟨s0, e0⟩ : ∃ s0, sumZ (fun x => sumZ (fun b => cellAt m b x) x) x = s0 := ⟨_, rfl⟩
     rw [e0] at ho e1
     rw [e1] at ho2
     repeat' first | refine pw_seq ?_ | refine pw_skip ?_ | refine pw_ret ?_ | refine pw_exit ?_ | refine pw_block ?_ | refine pw_region (fun _ => false) hmix ?_ | (refine wpG_split rfl rfl (fun hc => ?_) (fun hc => ?_) <;> try simp only [hcL, reduceCtorEq] at hc) | (refine pw_cond _ rfl rfl (fun hc => ?_) (fun hc => ?_) <;> (try simp only [hcL, reduceCtorEq] at hc) <;> try (exfalso; omega)) | simp (maxSteps := 1000000) (disch := omega) only [go_sem, simprocAttr] | apply And.intro | omega | decide +kernel
     refine pw_loopI (κ := Nat) (fun (y : Nat) => y ≤ x) (fun (y : Nat) => [(5, .int (s0 + sumZ (fun b => cellAt m b x) y)), (6, .d (listsD m)), (7, .int x), (27, .int m.length), (28, .int x), (31, .int x), (32, .int y)]) (fun (y : Nat) => []) (fun (y : Nat) => x - y) 0 ?_ ?_ ?_
     ·exact Nat.zero_le _
     ·exact eL [] _ _ (by refine ⟨?_, ?_⟩ <;> (repeat' first | exact List.forall_mem_nil _ | refine List.forall_mem_cons.2 ⟨(by first | rfl | (simp (disch := omega) only [go_sem, simprocAttr, inL, e0, sumZ, Int.add_zero]; first | done | omega | (congr 1; done))), ?_⟩); done)
     ·intro y hy
      rcases Nat.lt_or_ge y x with hly | hgy
      ·obtain ⟨p, hp, hpl, hpg, hp1, hp2⟩ := hs.get (b := y) (a := x) (by omega) hlt
       have hi := tri_inner hs hlt y (by omega)
       have e2 : sumZ (fun b => cellAt m b x) (y + 1) = sumZ (fun b => cellAt m b x) y + cellAt m y x := rfl
       repeat' first | refine pw_seq ?_ | refine pw_skip ?_ | refine pw_ret ?_ | refine pw_exit ?_ | refine pw_block ?_ | refine pw_region (fun _ => false) hmix ?_ | (refine wpG_split rfl rfl (fun hc => ?_) (fun hc => ?_) <;> try simp only [hcL, reduceCtorEq] at hc) | (refine pw_cond _ rfl rfl (fun hc => ?_) (fun hc => ?_) <;> (try simp only [hcL, reduceCtorEq] at hc) <;> try (exfalso; omega)) | simp (maxSteps := 1000000) (disch := omega) only [go_sem, simprocAttr, hp, hpg, hpl] | apply And.intro | omega | decide +kernel
       refine ⟨y + 1, ?_, eL [] _ _ (by refine ⟨?_, ?_⟩ <;> (repeat' first | exact List.forall_mem_nil _ | refine List.forall_mem_cons.2 ⟨(by first | rfl | (simp (disch := omega) only [go_sem, simprocAttr, inL, e2, Int.add_assoc]; first | done | omega | (congr 1; done))), ?_⟩); done), ?_⟩
       ·omega
       ·omega
      ·have : y = x := by omega
       subst this
       repeat' first | refine pw_seq ?_ | refine pw_skip ?_ | refine pw_ret ?_ | refine pw_exit ?_ | refine pw_block ?_ | refine pw_region (fun _ => false) hmix ?_ | (refine wpG_split rfl rfl (fun hc => ?_) (fun hc => ?_) <;> try simp only [hcL, reduceCtorEq] at hc) | (refine pw_cond _ rfl rfl (fun hc => ?_) (fun hc => ?_) <;> (try simp only [hcL, reduceCtorEq] at hc) <;> try (exfalso; omega)) | simp (maxSteps := 1000000) (disch := omega) only [go_sem, simprocAttr] | apply And.intro | omega | decide +kernel
       refine ⟨y + 1, ?_, eL [] _ _ (by refine ⟨?_, ?_⟩ <;> (repeat' first | exact List.forall_mem_nil _ | refine List.forall_mem_cons.2 ⟨(by first | rfl | (simp (disch := omega) only [go_sem, simprocAttr, inL, e1]; first | done | omega | (congr 1; done))), ?_⟩); done), ?_⟩
       ·omega
       ·omega
    ·have : x = m.length := by omega
     subst this
     repeat' first | refine pw_seq ?_ | refine pw_skip ?_ | refine pw_ret ?_ | refine pw_exit ?_ | refine pw_block ?_ | refine pw_region (fun _ => false) hmix ?_ | (refine wpG_split rfl rfl (fun hc => ?_) (fun hc => ?_) <;> try simp only [hcL, reduceCtorEq] at hc) | (refine pw_cond _ rfl rfl (fun hc => ?_) (fun hc => ?_) <;> (try simp only [hcL, reduceCtorEq] at hc) <;> try (exfalso; omega)) | simp (maxSteps := 1000000) (disch := omega) only [go_sem, simprocAttr] | apply And.intro | omega | decide +kernel
     exact int_some rfl
 ·rw [decide_eq_false c1] at h2
  rw [if_pos (by simp only [decide_eq_true_eq]; exact .inl c1)]
  refine callsTo_of Try.func55 rfl (by decide +kernel) (Nat.le_of_ble_eq_true rfl) ?_
  intro hat B X w0
  repeat' first | refine pw_seq ?_ | refine pw_skip ?_ | refine pw_ret ?_ | refine pw_exit ?_ | refine pw_block ?_ | refine pw_region (fun _ => false) hmix ?_ | (refine rc (h2) rfl ?_ ?_; (· first | rfl | (simp (disch := omega) only [go_sem, simprocAttr]; done))) | (refine wpG_split rfl rfl (fun hc => ?_) (fun hc => ?_) <;> try simp only [hcL, reduceCtorEq] at hc) | (refine pw_cond _ rfl rfl (fun hc => ?_) (fun hc => ?_) <;> (try simp only [hcL, reduceCtorEq] at hc) <;> try (exfalso; omega)) | simp (maxSteps := 1000000) (disch := omega) only [go_sem, simprocAttr] | apply And.intro | omega | decide +kernel
  exact int_some rfl
def TotalF (a : Lv) : Int := sumZ (fun i => BetweenF a i) a.2.1.length
theorem BetweenF_le (a : Lv) (i : Int) : 0 ≤ BetweenF a i ∧ BetweenF a i ≤ 360000000000 := by
 rw [BetweenF]
 split
 ·omega
 ·have hs := MatrixF_sq a i (i + 1)
  have := tri_outer hs _ (Nat.le_refl _)
  rw [triF]; omega
theorem Total_spec (a : Lv) (hw : wide a) (hl : a.2.1.length ≤ 1000) : CallsTo Try.prog 36 [lvD a] (.int (TotalF a)) := by
 have hb := fun i => Between_spec a i hw
 have hbl := BetweenF_le a
 have hs : ∀ k, k ≤ a.2.1.length → 0 ≤ sumZ (fun i => BetweenF a i) k ∧ sumZ (fun i => BetweenF a i) k ≤ 1000 * 360000000000 := fun k hk => by
  have := sumZ_bound (f := fun i => BetweenF a i) (c := 360000000000) k fun i _ => hbl i
  have h2 : k * 360000000000 ≤ 1000 * 360000000000 := Nat.mul_le_mul_right _ (by omega)
  omega
 rw [TotalF]
 generalize hB : (fun i : Nat => BetweenF a i) = Bf at hs ⊢
 have hb2 : ∀ i : Nat, CallsTo Try.prog 55 [lvD a, .int i] (.int (Bf i)) := fun i => by rw [← hB]; exact hb i
 obtain ⟨n, ls, ar, cs⟩ := a
 dsimp only at *
 refine callsTo_of Try.func36 rfl (by decide +kernel) (Nat.le_of_ble_eq_true rfl) ?_
 intro hat B X w0
 repeat' first | refine pw_seq ?_ | refine pw_skip ?_ | refine pw_ret ?_ | refine pw_exit ?_ | refine pw_block ?_ | refine pw_region (fun _ => false) hmix ?_ | (refine wpG_split rfl rfl (fun hc => ?_) (fun hc => ?_) <;> try simp only [hcL, reduceCtorEq] at hc) | (refine pw_cond _ rfl rfl (fun hc => ?_) (fun hc => ?_) <;> (try simp only [hcL, reduceCtorEq] at hc) <;> try (exfalso; omega)) | simp (maxSteps := 1000000) (disch := omega) only [go_sem, simprocAttr] | apply And.intro | omega | decide +kernel
 refine pw_loopI (κ := Nat) (fun (i : Nat) => i ≤ ls.length) (fun (i : Nat) => [(1, .ptr 1 0 0 0), (3, .int (sumZ Bf i)), (7, .int ls.length), (8, .int i)]) (fun (i : Nat) => [(1, .cells [.int n, .d (listsD ls), .d (arcsD ar), .d (listsD cs)])]) (fun (i : Nat) => ls.length - i) 0 ?_ ?_ ?_
 ·exact Nat.zero_le _
 ·exact eL [] _ _ (by refine ⟨?_, ?_⟩ <;> (repeat' first | exact List.forall_mem_nil _ | refine List.forall_mem_cons.2 ⟨(by first | rfl | (simp (disch := omega) only [go_sem, simprocAttr, inL, sumZ]; first | done | omega | (congr 1; done))), ?_⟩); done)
 ·intro i hi
  rcases Nat.lt_or_ge i ls.length with hlt | hge
  ·have h1 := hs i hi
   have h2 := hs (i + 1) (by omega)
   have e1 : sumZ Bf (i + 1) = sumZ Bf i + Bf i := rfl
   have hbi := hb2 i
   repeat' first | refine pw_seq ?_ | refine pw_skip ?_ | refine pw_ret ?_ | refine pw_exit ?_ | refine pw_block ?_ | refine pw_region (fun _ => false) hmix ?_ | (refine rc (hbi) rfl ?_ ?_; (· first | rfl | (simp (disch := omega) only [go_sem, simprocAttr]; done))) | (refine wpG_split rfl rfl (fun hc => ?_) (fun hc => ?_) <;> try simp only [hcL, reduceCtorEq] at hc) | (refine pw_cond _ rfl rfl (fun hc => ?_) (fun hc => ?_) <;> (try simp only [hcL, reduceCtorEq] at hc) <;> try (exfalso; omega)) | simp (maxSteps := 1000000) (disch := omega) only [go_sem, simprocAttr] | apply And.intro | omega | decide +kernel
   refine ⟨i + 1, ?_, eL [] _ _ (by refine ⟨?_, ?_⟩ <;> (repeat' first | exact List.forall_mem_nil _ | refine List.forall_mem_cons.2 ⟨(by first | rfl | (simp (disch := omega) only [go_sem, simprocAttr, inL, e1]; first | done | omega | (congr 1; done))), ?_⟩); done), ?_⟩
   ·omega
   ·omega
  ·have : i = ls.length := by omega
   subst this
   repeat' first | refine pw_seq ?_ | refine pw_skip ?_ | refine pw_ret ?_ | refine pw_exit ?_ | refine pw_block ?_ | refine pw_region (fun _ => false) hmix ?_ | (refine wpG_split rfl rfl (fun hc => ?_) (fun hc => ?_) <;> try simp only [hcL, reduceCtorEq] at hc) | (refine pw_cond _ rfl rfl (fun hc => ?_) (fun hc => ?_) <;> (try simp only [hcL, reduceCtorEq] at hc) <;> try (exfalso; omega)) | simp (maxSteps := 1000000) (disch := omega) only [go_sem, simprocAttr] | apply And.intro | omega | decide +kernel
   exact int_some rfl
end Go.Proofs.Ytldbcbclhpcofaa
