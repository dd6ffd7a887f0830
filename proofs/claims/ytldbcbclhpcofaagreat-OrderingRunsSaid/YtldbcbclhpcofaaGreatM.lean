/- The reference's Source and Valid: the walks. -/
import Derived.Test.YtldbcbclhpcofaaGreatF
set_option linter.unusedSimpArgs false
set_option linter.unusedVariables false
namespace Go.Proofs.YtldbcbclhpcofaaGreat
open Go Go.PS Go.Proofs
set_option maxRecDepth 100000
attribute [local irreducible] Zax wpG Zah Zai

def sourceOk (a : Lv) (o : List Int) : Bool := decide (0 ≤ a.1 ∧ a.1 ≤ o.length ∧ a.1 ≤ 64 ∧ a.2.2.2.length ≤ 256) && !a.2.2.2.any shortC
def Zce (a : Lv) : Gr × List Int × Bool := match ranksF a.2.1 with
 | none => ((0, []), [], false)
 | some o => if sourceOk a o then (srcG a, o.take a.1.toNat, true) else ((0, []), [], false)
def rValidF (a : Lv) : Bool := (Zce a).2.2 && decide ((Zbz (Zce a).1 (Zce a).2.1).2 = 0) && sameLv (Zbz (Zce a).1 (Zce a).2.1).1 (sortLv a)
set_option maxHeartbeats 4000000 in
theorem Source_spec (a : Lv) (hw : wide a) : Zah Tryz.prog 40 [lvD a] (.tup [gD (Zce a).1, Zak (Zce a).2.1, .bool (Zce a).2.2]) := by
 have hr := Ranks_spec a hw
 obtain ⟨m, ls, ar, cs⟩ := a
 dsimp only at hr
 have hsf : Zce (m, ls, ar, cs) = match ranksF ls with
  | none => ((0, []), [], false)
  | some o => if sourceOk (m, ls, ar, cs) o then ((m, cs.map endsA), o.take m.toNat, true) else ((0, []), [], false) := rfl
 rw [hsf]
 rcases hrf : ranksF ls with _ | o
 ·rw [hrf] at hr
  dsimp only [Option.getD_none, Option.isSome_none] at hr
  refine Zaf Tryz.func40 rfl (by decide +kernel) (Nat.le_of_ble_eq_true rfl) ?_
  intro hat B X w0
  repeat' first | refine Zad rfl ?_ | refine Zac ?_ | refine wR ?_ | (refine rc (hr) rfl ?_ ?_; (· first | rfl | simp (disch := omega) only [go_sem, simprocAttr, List.append_eq])) | (refine Zaa rfl rfl (fun hc => ?_) (fun hc => ?_) <;> try simp only [hcL] at hc) | (refine Zab _ rfl rfl (fun hc => ?_) (fun hc => ?_) <;> (try simp only [hcL] at hc) <;> try omega) | simp (disch := omega) only [go_sem, simprocAttr, List.append_eq] | apply And.intro | omega | decide +kernel
  refine ⟨_, rfl, ⟨_, _, _, _, rfl, ?_⟩, rfl, Zas rfl, trivial⟩
  simp (disch := omega) only [go_sem, simprocAttr, toD]
  rfl
 ·rw [hrf] at hr
  dsimp only [Option.getD_some, Option.isSome_some] at hr
  dsimp only
  have hol : o.length ≤ 512 := by
   rw [ranksF] at hrf
   split at hrf
   ·cases hrf
   ·split at hrf
    ·cases hrf; rw [rowR_len]; omega
    ·cases hrf
  refine Zaf Tryz.func40 rfl (by decide +kernel) (Nat.le_of_ble_eq_true rfl) ?_
  intro hat B X w0
  have h3 := Zbt 0 3 hat rfl rfl
  rw [List.length_map] at h3
  dsimp only at h3
  repeat' first | refine Zad rfl ?_ | refine Zac ?_ | refine wR ?_ | (refine rc (hr) rfl ?_ ?_; (· first | rfl | simp (disch := omega) only [go_sem, simprocAttr, List.append_eq])) | (refine Zaa rfl rfl (fun hc => ?_) (fun hc => ?_) <;> try simp only [hcL] at hc) | (refine Zab _ rfl rfl (fun hc => ?_) (fun hc => ?_) <;> (try simp only [hcL] at hc) <;> try omega) | simp (disch := omega) only [go_sem, simprocAttr, List.append_eq] | apply And.intro | omega | decide +kernel
  all_goals try
   rw [if_neg (by simp [sourceOk]; omega)]
   refine ⟨_, rfl, ⟨_, _, _, _, rfl, ?_⟩, rfl, Zas rfl, trivial⟩
   simp (disch := omega) only [go_sem, simprocAttr, toD]
   rfl
  obtain ⟨n, rfl⟩ : ∃ n : Nat, m = n := ⟨m.toNat, by omega⟩
  have hn1 : n ≤ o.length := by omega
  have hn2 : n ≤ 64 := by omega
  have hc2 : cs.length ≤ 256 := by omega
  have hso : sourceOk ((n : Int), ls, ar, cs) o = !cs.any shortC := by
   simp only [sourceOk]; rw [decide_eq_true (by omega), Bool.true_and]
  rw [hso]
  refine Zbd _ (Zcl 7 1 901 2 rfl rfl rfl) ?_
  refine Zap (κ := Nat) (fun (k : Nat) => k ≤ cs.length ∧ ∀ (j : Nat) y, j < k → cs[j]? = some y → shortC y = false) (fun (k : Nat) => [(1, .ptr 1 0 0 0), (2, .ptr 2 0 0 0), (5, .d (Zak o)), (7, .ptr 7 0 0 0), (8, .int k)]) (fun (k : Nat) => [(1, .cells [.int n, .d (Zaj ls), .d (Zal ar), .d (Zaj cs)]), (2, .cells [.int 0, .nilS]), (7, .cells [.int n, .ref 901 2 0 k k]), (901, .row 2 (((cs.take k).map endsA).map arcD))]) (fun (k : Nat) => cs.length - k) 0 ?_ ?_ ?_
  ·exact ⟨Nat.zero_le _, fun j y h => by omega⟩
  ·exact eL [] _ _ (by refine ⟨?_, ?_⟩ <;> (repeat' first | exact fmn | refine fmc ⟨(by first | rfl | (simp (disch := omega) only [go_sem, simprocAttr, inL, List.take_zero, List.map_nil]; first | done | omega | (congr 1; done))), ?_⟩); done)
  ·rintro k ⟨hk, hinv⟩
   rcases Nat.lt_or_ge k cs.length with hlt | hge
   ·obtain ⟨c, hc0⟩ := Zan hlt
    by_cases hsc : c.length < 2
    ·have : cs.any shortC = true := any_at hc0 (by simpa [shortC] using hsc)
     rw [this]
     repeat' first | refine Zad rfl ?_ | refine Zac ?_ | refine wR ?_ | (refine Zaa rfl rfl (fun hc => ?_) (fun hc => ?_) <;> try simp only [hcL] at hc) | (refine Zab _ rfl rfl (fun hc => ?_) (fun hc => ?_) <;> (try simp only [hcL] at hc) <;> try omega) | simp (disch := omega) only [go_sem, simprocAttr, hc0] | apply And.intro | omega | decide +kernel
     refine ⟨_, rfl, ⟨_, _, _, _, rfl, ?_⟩, rfl, Zas rfl, trivial⟩
     simp (disch := omega) only [go_sem, simprocAttr, toD]
     rfl
    ·have hcl : c.length ≤ 9223372036854775807 := by have := at_elem (m := c.map D.int) (k := k) 0 3 hat rfl rfl (by rw [List.getElem?_map, hc0]; rfl); rwa [List.length_map] at this
     have e1 := at0_at (r := c) (i := 0) (by omega)
     have e2 := at0_get (r := c) (v := (c.length : Int) - 1) (by omega) (by omega)
     have hts := Zat hc0
     have hlk : (((cs.take k).map endsA).map arcD).length = k := by rw [List.length_map, List.length_map, List.length_take]; omega
     have htk : List.take k (((cs.take k).map endsA).map arcD) = ((cs.take k).map endsA).map arcD := List.take_of_length_le (by rw [hlk]; exact Nat.le_refl _)
     repeat' first | refine Zad rfl ?_ | refine Zac ?_ | refine wR ?_ | (refine Zaa rfl rfl (fun hc => ?_) (fun hc => ?_) <;> try simp only [hcL] at hc) | (refine Zab _ rfl rfl (fun hc => ?_) (fun hc => ?_) <;> (try simp only [hcL] at hc) <;> try omega) | simp (disch := omega) only [go_sem, simprocAttr, hc0, e1, e2, Zbb, hlk] | apply And.intro | omega | decide +kernel
     refine ⟨k + 1, ?_, eL [(901, 73)] _ _ (by refine ⟨?_, ?_⟩ <;> (repeat' first | exact fmn | refine fmc ⟨(by first | rfl | (simp (disch := omega) only [go_sem, simprocAttr, inL, hts, List.map_append, htk]; first | done | omega | (congr 1; done))), ?_⟩); done), ?_⟩
     ·exact ⟨by omega, Zbr hinv hc0 (by simpa [shortC] using hsc)⟩
     ·omega
   ·have : k = cs.length := by omega
    subst this
    have hsc : cs.any shortC = false := any_no fun j y hj => hinv j y hj
    try dsimp only
    rw [List.take_length, hsc, if_pos (by decide)]
    have hlA : ((cs.map endsA).map arcD).length = cs.length := by simp
    repeat' first | refine Zad rfl ?_ | refine Zac ?_ | refine wR ?_ | (refine Zaa rfl rfl (fun hc => ?_) (fun hc => ?_) <;> try simp only [hcL] at hc) | (refine Zab _ rfl rfl (fun hc => ?_) (fun hc => ?_) <;> (try simp only [hcL] at hc) <;> try omega) | simp (disch := omega) only [go_sem, simprocAttr] | exact Zbs o | apply And.intro | omega | decide +kernel
    refine ⟨_, rfl, ⟨_, _, _, _, rfl, ?_⟩, ?_, Zas rfl, trivial⟩
    ·simp (disch := omega) only [go_sem, simprocAttr, toD, hlA, Nat.le_refl, List.drop_zero]
     rw [List.take_of_length_le (by rw [hlA]; exact Nat.le_refl _)]
    ·exact Zcd (by rw [List.map_take])
theorem rTot {a : Lv} (h : (Zce a).2.2 = true) : a.2.1.length ≤ 256 ∧ tot a.2.1 ≤ 512 := by
 rw [Zce] at h
 split at h
 ·cases h
 ·rename_i o ho
  rw [ranksF] at ho
  split at ho
  ·cases ho
  ·omega
set_option maxHeartbeats 4000000 in
theorem Zbw (a : Lv) (hw : wide a) : Zah Tryz.prog 19 [lvD a] (.bool (rValidF a)) := by
 have hs := Source_spec a hw
 have hb := rBuild_spec (Zce a).1 (Zce a).2.1
 have hm := rSame_spec (Zbz (Zce a).1 (Zce a).2.1).1 (sortLv a)
 rcases h1 : (Zce a).2.2 with _ | _
 ·rw [h1] at hs
  rw [rValidF, h1]
  refine Zaf Tryz.func19 rfl (by decide +kernel) (Nat.le_of_ble_eq_true rfl) ?_
  intro hat B X w0
  repeat' first | refine Zad rfl ?_ | refine Zac ?_ | refine wR ?_ | (refine rc (hs) rfl ?_ ?_; (· first | rfl | simp (disch := omega) only [go_sem, simprocAttr, List.append_eq])) | (refine Zaa rfl rfl (fun hc => ?_) (fun hc => ?_) <;> try simp only [hcL] at hc) | (refine Zab _ rfl rfl (fun hc => ?_) (fun hc => ?_) <;> (try simp only [hcL] at hc) <;> try omega) | simp (disch := omega) only [go_sem, simprocAttr, List.append_eq] | apply And.intro | omega | decide +kernel
  exact Zas rfl
 ·rw [h1] at hs
  rw [rValidF, h1]
  obtain ⟨t1, t2⟩ := rTot h1
  have hp := plain_spec a (by omega) (fun y hy => by have := Zbq hy; omega)
  generalize Zce a = S at *
  generalize Zbz S.1 S.2.1 = BF at *
  obtain ⟨b, e⟩ := BF
  dsimp only at hb hm ⊢
  by_cases he : e = 0
  ·subst he
   rcases hsv : sameLv b (sortLv a) with _ | _ <;> rw [hsv] at hm
   all_goals
    refine Zaf Tryz.func19 rfl (by decide +kernel) (Nat.le_of_ble_eq_true rfl) ?_
    intro hat B X w0
    repeat' first | refine Zad rfl ?_ | refine Zac ?_ | refine wR ?_ | (refine rc (hs) rfl ?_ ?_; (· first | rfl | simp (disch := omega) only [go_sem, simprocAttr, List.append_eq])) | (refine rc (hb) rfl ?_ ?_; (· first | rfl | simp (disch := omega) only [go_sem, simprocAttr, List.append_eq])) | (refine rc (hp) rfl ?_ ?_; (· first | rfl | simp (disch := omega) only [go_sem, simprocAttr, List.append_eq])) | (refine rc (hm) rfl ?_ ?_; (· first | rfl | simp (disch := omega) only [go_sem, simprocAttr, List.append_eq])) | (refine Zaa rfl rfl (fun hc => ?_) (fun hc => ?_) <;> try simp only [hcL] at hc) | (refine Zab _ rfl rfl (fun hc => ?_) (fun hc => ?_) <;> (try simp only [hcL] at hc) <;> try omega) | simp (disch := omega) only [go_sem, simprocAttr, List.append_eq] | apply And.intro | omega | decide +kernel
    exact Zas rfl
  ·refine Zaf Tryz.func19 rfl (by decide +kernel) (Nat.le_of_ble_eq_true rfl) ?_
   intro hat B X w0
   repeat' first | refine Zad rfl ?_ | refine Zac ?_ | refine wR ?_ | (refine rc (hs) rfl ?_ ?_; (· first | rfl | simp (disch := omega) only [go_sem, simprocAttr, List.append_eq, he])) | (refine rc (hb) rfl ?_ ?_; (· first | rfl | simp (disch := omega) only [go_sem, simprocAttr, List.append_eq, he])) | (refine rc (hp) rfl ?_ ?_; (· first | rfl | simp (disch := omega) only [go_sem, simprocAttr, List.append_eq, he])) | (refine rc (hm) rfl ?_ ?_; (· first | rfl | simp (disch := omega) only [go_sem, simprocAttr, List.append_eq, he])) | (refine Zaa rfl rfl (fun hc => ?_) (fun hc => ?_) <;> try simp only [hcL] at hc) | (refine Zab _ rfl rfl (fun hc => ?_) (fun hc => ?_) <;> (try simp only [hcL] at hc) <;> try omega) | simp (disch := omega) only [go_sem, simprocAttr, List.append_eq, he] | apply And.intro | omega | decide +kernel
   refine Zas ?_
   simp [he]
end Go.Proofs.YtldbcbclhpcofaaGreat
namespace Go.Proofs.YtldbcbclhpcofaaGreat
open Go Go.PS Go.Proofs

theorem nodup_le : ∀ {l m : List Int}, l.Nodup → (∀ x, x ∈ l → x ∈ m) → l.length ≤ m.length
 | [], m, _, _ => Nat.zero_le _
 | x :: l, m, hn, hs => by
  have hx : x ∈ m := hs x (by simp)
  have h1 := List.length_erase_of_mem hx
  have h2 : 0 < m.length := List.length_pos_of_mem hx
  have hn2 := List.nodup_cons.1 hn
  have := nodup_le (l := l) (m := m.erase x) hn2.2 (fun y hy => by
   have hne : y ≠ x := fun e => hn2.1 (e ▸ hy)
   exact (List.mem_erase_of_ne hne).2 (hs y (List.mem_cons_of_mem _ hy)))
  simp only [List.length_cons]; omega
def below (c : Nat) : List Int := (List.range c).map fun n : Nat => (n : Int)
theorem below_len (c : Nat) : (below c).length = c := by simp [below]
theorem below_mem {c : Nat} {v : Int} : v ∈ below c ↔ 0 ≤ v ∧ v < c := by
 simp only [below, List.mem_map, List.mem_range]
 constructor
 ·rintro ⟨n, h, rfl⟩; omega
 ·intro h; exact ⟨v.toNat, by omega, by omega⟩
theorem below_nodup (c : Nat) : (below c).Nodup := by
 refine List.Pairwise.map _ ?_ (List.nodup_range (n := c))
 intro a b h; omega
theorem nodup_all {c : Nat} {l : List Int} (hn : l.Nodup) (hb : ∀ v, v ∈ l → 0 ≤ v ∧ v < c) (hl : l.length = c) (v : Int) (h0 : 0 ≤ v) (h1 : v < c) : v ∈ l := by
 by_cases h : v ∈ l
 ·exact h
 ·have := nodup_le (l := v :: l) (m := below c) (List.nodup_cons.2 ⟨h, hn⟩) (fun x hx => by
   rcases List.mem_cons.1 hx with rfl | hx
   ·exact below_mem.2 ⟨h0, h1⟩
   ·exact below_mem.2 (hb x hx))
  rw [below_len, List.length_cons] at this
  omega
theorem layerOf_mem {A : List Int} {k : Nat} {v : Int} : v ∈ Zbf A k ↔ 0 ≤ v ∧ A[v.toNat]? = some (k : Int) := by
 simp only [Zbf, List.mem_map, List.mem_filter, List.mem_range, decide_eq_true_eq]
 constructor
 ·rintro ⟨n, ⟨h1, h2⟩, rfl⟩
  exact ⟨by omega, by rw [Int.toNat_natCast]; exact h2⟩
 ·rintro ⟨h1, h2⟩
  exact ⟨v.toNat, ⟨(List.getElem?_eq_some_iff.1 h2).1, h2⟩, by omega⟩
theorem layerOf_sorted (A : List Int) (k : Nat) : (Zbf A k).Pairwise (· < ·) := by
 refine List.Pairwise.map (R := (· < ·)) _ ?_ ((List.pairwise_lt_range (n := A.length)).filter _)
 intro a b h; omega
theorem layersN_get {A : List Int} {M k : Nat} (h : k < M) : (Zby A M)[k]? = some (Zbf A k) := by simp [Zby, h]
section layers
variable {A : List Int} {M : Nat}
theorem layers_flat (hA : ∀ n : Nat, n < A.length → 0 ≤ at0 A n ∧ at0 A n < M) {v : Int} : v ∈ (Zby A M).flatten ↔ 0 ≤ v ∧ v < A.length := by
 simp only [Zby, List.mem_flatten, List.mem_map, List.mem_range]
 constructor
 ·rintro ⟨y, ⟨k, hk, rfl⟩, hv⟩
  obtain ⟨h1, h2⟩ := layerOf_mem.1 hv
  have := (List.getElem?_eq_some_iff.1 h2).1
  omega
 ·rintro ⟨h1, h2⟩
  have h3 := hA v.toNat (by omega)
  refine ⟨_, ⟨(at0 A v.toNat).toNat, by omega, rfl⟩, layerOf_mem.2 ⟨h1, ?_⟩⟩
  rw [at0_at (by omega)]
  congr 1; omega
theorem layers_nodup : (Zby A M).flatten.Nodup := by
 refine List.pairwise_flatten.2 ⟨fun y hy => ?_, ?_⟩
 ·obtain ⟨k, _, rfl⟩ := List.mem_map.1 hy
  exact (layerOf_sorted A k).imp (fun h => by omega)
 ·refine List.Pairwise.map _ ?_ (List.pairwise_lt_range (n := M))
  intro a b h x hx y hy e
  subst e
  have h1 := (layerOf_mem.1 hx).2
  rw [(layerOf_mem.1 hy).2, Option.some.injEq] at h1
  omega
theorem layers_tot (hA : ∀ n : Nat, n < A.length → 0 ≤ at0 A n ∧ at0 A n < M) : tot (Zby A M) = A.length := by
 rw [← tot_flat]
 have h1 := nodup_le (l := (Zby A M).flatten) (m := below A.length) layers_nodup (fun x hx => below_mem.2 ((layers_flat hA).1 hx))
 have h2 := nodup_le (l := below A.length) (m := (Zby A M).flatten) (below_nodup _) (fun x hx => (layers_flat hA).2 (below_mem.1 hx))
 rw [below_len] at h1 h2
 omega
theorem layers_lay (hA : ∀ n : Nat, n < A.length → 0 ≤ at0 A n ∧ at0 A n < M) {n : Nat} (h : n < A.length) : layI (Zby A M) n = at0 A n := by
 have h3 := hA n h
 have hk : (Zby A M)[(at0 A n).toNat]? = some (Zbf A (at0 A n).toNat) := layersN_get (by omega)
 have hm : ((n : Nat) : Int) ∈ Zbf A (at0 A n).toNat := layerOf_mem.2 ⟨by omega, by rw [Int.toNat_natCast, at0_at h]; congr 1; omega⟩
 rw [layI, findIdx_at hk (List.any_eq_true.2 ⟨_, hm, by simp⟩)]
 ·show (((at0 A n).toNat : Nat) : Int) = _; omega
 ·intro j y hj hy
  rw [layersN_get (by omega)] at hy
  cases hy
  rw [List.any_eq_false]
  intro x hx hxn
  have : x = n := by simpa using hxn
  subst this
  have h4 := (layerOf_mem.1 hx).2
  rw [Int.toNat_natCast, at0_at h, Option.some.injEq] at h4
  omega
theorem layers_good (hA : ∀ n : Nat, n < A.length → 0 ≤ at0 A n ∧ at0 A n < M) : good A.length (Zby A M) = true := by
 rw [good_iff]
 exact ⟨fun v hv => (layers_flat hA).1 hv, layers_nodup⟩
theorem layers_row (hA : ∀ n : Nat, n < A.length → 0 ≤ at0 A n ∧ at0 A n < M) : rowR A.length (Zby A M) = A := by
 refine List.ext_getElem? fun u => ?_
 by_cases hu : u < A.length
 ·rw [rowR_get hu, layers_lay hA hu, at0_at hu]
 ·rw [List.getElem?_eq_none (by rw [rowR_len]; omega), List.getElem?_eq_none (by omega)]
end layers
theorem sort_flat (ls : List (List Int)) : (ls.map sortL).flatten.Perm ls.flatten := by
 induction ls with
 | nil => exact .refl _
 | cons y ls ih => simp only [List.map_cons, List.flatten_cons]; exact (sortL_perm y).append ih
theorem sort_tot (ls : List (List Int)) : tot (ls.map sortL) = tot ls := by
 rw [← tot_flat, ← tot_flat]; exact (sort_flat ls).length_eq
theorem sort_lay (ls : List (List Int)) (v : Int) : layI (ls.map sortL) v = layI ls v := by
 rw [layI, layI, List.findIdx?_map]
 congr 2
 funext y
 show (sortL y).any _ = y.any _
 rw [Bool.eq_iff_iff, List.any_eq_true, List.any_eq_true]
 constructor
 ·rintro ⟨x, h1, h2⟩; exact ⟨x, (sortL_perm y).mem_iff.1 h1, h2⟩
 ·rintro ⟨x, h1, h2⟩; exact ⟨x, (sortL_perm y).mem_iff.2 h1, h2⟩
theorem sort_good (c : Nat) (ls : List (List Int)) : good c (ls.map sortL) = good c ls := by
 rw [Bool.eq_iff_iff, good_iff, good_iff, (sort_flat ls).nodup_iff]
 constructor
 ·rintro ⟨h1, h2⟩; exact ⟨fun v hv => h1 v ((sort_flat ls).mem_iff.2 hv), h2⟩
 ·rintro ⟨h1, h2⟩; exact ⟨fun v hv => h1 v ((sort_flat ls).mem_iff.1 hv), h2⟩
theorem sort_row (c : Nat) (ls : List (List Int)) : rowR c (ls.map sortL) = rowR c ls := by simp only [rowR, sort_lay]
theorem sort_ranks (ls : List (List Int)) : ranksF (ls.map sortL) = ranksF ls := by
 rw [ranksF, ranksF, List.length_map, sort_tot, sort_good, sort_row]
def highN (g : Gr) (r : List Int) : Nat := if g.1 = 0 then 0 else (maxN r (r.length - 1) + 1).toNat
structure Built (g : Gr) (r : List Int) : Prop where
 eq : Zbz g r = (madeF g r, 0)
 gok : gOk g = true
 len : (r.length : Int) = g.1
 rk : ∀ v : Nat, 0 ≤ at0 r v ∧ at0 r v ≤ 255
 loop : ∀ a, a ∈ g.2 → a.1 ≠ a.2
 gap : ∀ (k : Nat) a, g.2[k]? = some a → 0 ≤ at0 r a.2 - at0 r a.1 - 1
 big : g.1 + sumG r g.2 g.2.length ≤ 512
theorem built {g : Gr} {r : List Int} (h : (Zbz g r).2 = 0) : Built g r := by
 rw [Zbz] at h
 split at h
 ·cases h
 ·rename_i h1
  have h1 : ranksOk g r = true := by simpa using h1
  obtain ⟨g1, g2, g3, g4⟩ := ranksOk_in h1
  split at h
  ·cases h
  ·rename_i h2
   split at h
   ·cases h
   ·rename_i h3
    split at h
    ·cases h
    ·rename_i h4
     refine ⟨?_, g1, g2, g4, fun a ha => ?_, fun k a ha => ?_, by omega⟩
     ·rw [Zbz, h1, if_neg (by decide), if_neg h2, if_neg h3, if_neg h4]
     ·have := List.any_eq_false.1 (Bool.eq_false_iff.2 h2) a ha
      simpa [loopF] using this
     ·have := List.any_eq_false.1 (Bool.eq_false_iff.2 h3) a (List.mem_of_getElem? ha)
      rw [upward, decide_eq_true_eq] at this; omega
theorem made_layers (g : Gr) (r : List Int) : (madeF g r).2.1 = Zby (allR r g.2 g.2.length) (highN g r) := by
 rw [madeF, highN]
 split
 ·rfl
 ·rfl
theorem at0_mem {l : List Int} {P : Int → Prop} (h : ∀ x, x ∈ l → P x) (n : Nat) (hn : n < l.length) : P (at0 l n) := h _ (List.mem_of_getElem? (at0_at hn))
namespace Built
variable {g : Gr} {r : List Int}
theorem ends (b : Built g r) {k : Nat} {a : Arc} (h : g.2[k]? = some a) : 0 ≤ a.1 ∧ a.1 < g.1 ∧ 0 ≤ a.2 ∧ a.2 < g.1 := (gOk_in b.gok).2.2.2 k a h
theorem high (b : Built g r) (hp : 0 < r.length) : (highN g r : Int) = maxN r (r.length - 1) + 1 := by
 have h1 := maxN_ge r (r.length - 1) 0 (by omega)
 have h2 := b.rk 0
 have h3 := b.len
 rw [highN, if_neg (by omega)]; omega
theorem high_le (b : Built g r) : highN g r ≤ 256 := by
 have h2 := maxN_le (fun j => (b.rk j).2) (r.length - 1)
 rw [highN]
 split <;> omega
theorem rk_lt (b : Built g r) {n : Nat} (h : n < r.length) : at0 r n < highN g r := by
 have := maxN_ge r (r.length - 1) n (by omega)
 rw [b.high (by omega)]; omega
theorem vals (b : Built g r) : ∀ n : Nat, n < (allR r g.2 g.2.length).length → 0 ≤ at0 (allR r g.2 g.2.length) n ∧ at0 (allR r g.2 g.2.length) n < highN g r := by
 refine fun n hn => at0_mem (P := fun x => 0 ≤ x ∧ x < highN g r) ?_ n hn
 intro x hx
 rw [allR, List.take_length, List.mem_append] at hx
 rcases hx with hx | hx
 ·obtain ⟨k, hk⟩ := List.getElem?_of_mem hx
  have hkl := (List.getElem?_eq_some_iff.1 hk).1
  rw [at0_at hkl] at hk
  cases hk
  exact ⟨(b.rk k).1, b.rk_lt hkl⟩
 ·obtain ⟨a, ha, hx⟩ := List.mem_flatMap.1 hx
  obtain ⟨k, hk⟩ := List.getElem?_of_mem ha
  have he := b.ends hk
  have hg := b.gap k a hk
  have hl := b.len
  have h1 := b.rk a.1.toNat
  have h2 := b.rk_lt (n := a.2.toNat) (by omega)
  rw [show ((a.1.toNat : Nat) : Int) = a.1 by omega] at h1
  rw [show ((a.2.toNat : Nat) : Int) = a.2 by omega] at h2
  simp only [news, List.mem_map, List.mem_range] at hx
  obtain ⟨j, hj, rfl⟩ := hx
  rw [gapN] at hj
  omega
theorem all_len (b : Built g r) : (allR r g.2 g.2.length).length ≤ 512 := by
 have h1 := allR_le b.gap g.2.length (Nat.le_refl _)
 have h2 := b.len
 have h3 := b.big
 omega
theorem all_ge (b : Built g r) : r.length ≤ (allR r g.2 g.2.length).length := by simp [allR]
theorem all_take (b : Built g r) : (allR r g.2 g.2.length).take r.length = r := by simp [allR]
theorem ranks (b : Built g r) : ranksF (madeF g r).2.1 = some (allR r g.2 g.2.length) := by
 have hv := b.vals
 have hl := b.all_len
 rw [made_layers, ranksF, layersN_len, layers_tot hv, if_neg (by have := b.high_le; omega), layers_good hv, if_pos rfl, layers_row hv]
end Built
theorem valid_head {a : Lv} (h : Zay a = true) : headOk a = true ∧ a.2.2.2.any shortC = false ∧ foundOk a = true ∧ (Zbz (srcG a) (Zbu a)).2 = 0 ∧ sortLv a = (Zbz (srcG a) (Zbu a)).1 := by
 simp only [Zay, Bool.and_eq_true, Bool.not_eq_true', decide_eq_true_eq, sameLv_iff] at h
 obtain ⟨⟨⟨⟨h1, h2⟩, h3⟩, h4⟩, h5⟩ := h
 exact ⟨h1, h2, h3, h4, h5⟩
theorem valid_built {a : Lv} (h : Zay a = true) : Built (srcG a) (Zbu a) ∧ sortLv a = madeF (srcG a) (Zbu a) ∧ ranksF a.2.1 = some (allR (Zbu a) (srcG a).2 (srcG a).2.length) := by
 obtain ⟨h1, h2, h3, h4, h5⟩ := valid_head h
 have b := built h4
 rw [b.eq] at h5
 refine ⟨b, h5, ?_⟩
 rw [← sort_ranks]
 have : a.2.1.map sortL = (madeF (srcG a) (Zbu a)).2.1 := congrArg (fun x : Lv => x.2.1) h5
 rw [this, b.ranks]
theorem valid_source {a : Lv} (h : Zay a = true) : Zce a = (srcG a, Zbu a, true) := by
 obtain ⟨h1, h2, h3, h4, h5⟩ := valid_head h
 obtain ⟨b, hm, hr⟩ := valid_built h
 simp only [headOk, decide_eq_true_eq] at h1
 have hl := b.len
 have hge := b.all_ge
 have e1 : (srcG a).1 = a.1 := rfl
 rw [Zce, hr]
 dsimp only
 rw [if_pos]
 ·have := b.all_take
  rw [show a.1.toNat = (Zbu a).length by omega, this]
 ·simp only [sourceOk, Bool.and_eq_true, decide_eq_true_eq, h2, Bool.not_false, and_true]
  omega
theorem source_ok {a : Lv} (h : (Zce a).2.2 = true) : ∃ o, ranksF a.2.1 = some o ∧ sourceOk a o = true ∧ Zce a = (srcG a, o.take a.1.toNat, true) := by
 rw [Zce] at h ⊢
 split at h
 ·cases h
 ·rename_i o ho
  split at h
  ·rename_i hs
   refine ⟨o, ho, hs, ?_⟩
   rw [if_pos hs]
  ·cases h
theorem ranks_ok {ls : List (List Int)} {o : List Int} (h : ranksF ls = some o) : ls.length ≤ 256 ∧ tot ls ≤ 512 ∧ good (tot ls) ls = true ∧ o = rowR (tot ls) ls := by
 rw [ranksF] at h
 split at h
 ·cases h
 ·split at h
  ·cases h; exact ⟨by omega, by omega, by assumption, rfl⟩
  ·cases h
theorem good_all {ls : List (List Int)} (h : good (tot ls) ls = true) {v : Int} (h0 : 0 ≤ v) (h1 : v < tot ls) : 0 ≤ layI ls v := by
 rw [good_iff] at h
 exact layI_mem.2 (nodup_all h.2 h.1 (tot_flat ls) v h0 h1)
theorem valid_same (a : Lv) : Zay a = rValidF a := by
 rw [Bool.eq_iff_iff]
 constructor
 ·intro h
  have hs := valid_source h
  obtain ⟨h1, h2, h3, h4, h5⟩ := valid_head h
  rw [rValidF, hs]
  simp only [h4, h5, Bool.true_and, sameLv_iff, decide_true, and_self]
 ·intro h
  simp only [rValidF, Bool.and_eq_true, decide_eq_true_eq, sameLv_iff] at h
  obtain ⟨⟨h1, h2⟩, h3⟩ := h
  obtain ⟨o, ho, hso, hsf⟩ := source_ok h1
  obtain ⟨t1, t2, t3, rfl⟩ := ranks_ok ho
  simp only [sourceOk, Bool.and_eq_true, decide_eq_true_eq, Bool.not_eq_true', rowR_len] at hso
  obtain ⟨⟨s1, s2, s3, s4⟩, s5⟩ := hso
  have hrv : (rowR (tot a.2.1) a.2.1).take a.1.toNat = Zbu a := by
   rw [rowR, ← List.map_take, List.take_range, Nat.min_eq_left (by omega), Zbu]
  rw [hsf, hrv] at h2 h3
  dsimp only at h2 h3
  have hfo : foundOk a = true := by
   rw [foundOk, Bool.not_eq_true', List.any_eq_false]
   intro v hv
   have := good_all t3 (v := v) (by omega) (by have := List.mem_range.1 hv; omega)
   simp only [lostV, decide_eq_true_eq]; omega
  simp only [Zay, headOk, s5, hfo, h2, h3, sameLv_iff, Bool.and_eq_true, decide_eq_true_eq, Bool.not_false, and_true, decide_true]
  omega
end Go.Proofs.YtldbcbclhpcofaaGreat
namespace Go.Proofs.YtldbcbclhpcofaaGreat
open Go Go.PS Go.Proofs
set_option maxRecDepth 100000
attribute [local irreducible] Zax wpG Zah Zai

theorem Zcq {a : Lv} (h : Zay a = true) : a.2.1.length ≤ 256 ∧ tot a.2.1 ≤ 512 := by
 have := valid_source h
 exact rTot (by rw [this])
end Go.Proofs.YtldbcbclhpcofaaGreat
namespace Go.Proofs.YtldbcbclhpcofaaGreat
open Go Go.PS Go.Proofs
set_option maxRecDepth 100000
attribute [local irreducible] Zax wpG Zah Zai

theorem arc_cells (l : List Arc) : ∀ d, d ∈ l.map arcD → d.cells.length = 2 := cells_map arcD 2 (fun _ => rfl) l
theorem cloneA_spec (l : List Arc) (hn : l.length ≤ 1000000) : Zah Tryz.prog 61 [Zal l] (Zal l) := by
 rcases Decidable.em (l = []) with rfl | hl
 ·refine Zaf Tryz.func61 rfl (by decide +kernel) (Nat.le_of_ble_eq_true rfl) ?_
  intro hat B X w0
  repeat' first | refine Zad rfl ?_ | refine Zac ?_ | refine wR ?_ | (refine Zaa rfl rfl (fun hc => ?_) (fun hc => ?_) <;> try simp only [hcL] at hc) | (refine Zab _ rfl rfl (fun hc => ?_) (fun hc => ?_) <;> (try simp only [hcL] at hc) <;> try omega) | simp (disch := omega) only [go_sem, simprocAttr] | apply And.intro | omega | decide +kernel
  refine pw_anyb 4 rfl ?_
  intro b
  cases b
  ·repeat' first | refine Zad rfl ?_ | refine Zac ?_ | refine Zcx (Nat.beq 5) hmix ?_ | (refine Zaa rfl rfl (fun hc => ?_) (fun hc => ?_) <;> try simp only [hcL] at hc) | (refine Zab _ rfl rfl (fun hc => ?_) (fun hc => ?_) <;> (try simp only [hcL] at hc) <;> try omega) | simp (disch := omega) only [go_sem, simprocAttr, Zbb] | apply And.intro | omega | decide +kernel
   exact Zcd rfl
  ·repeat' first | refine Zad rfl ?_ | refine Zac ?_ | refine wR ?_ | (refine Zaa rfl rfl (fun hc => ?_) (fun hc => ?_) <;> try simp only [hcL] at hc) | (refine Zab _ rfl rfl (fun hc => ?_) (fun hc => ?_) <;> (try simp only [hcL] at hc) <;> try omega) | simp (disch := omega) only [go_sem, simprocAttr] | apply And.intro | omega | decide +kernel
   exact Zcd rfl
 ·have he : (l.map arcD).isEmpty = false := by simpa using hl
  have hpos : 0 < l.length := List.length_pos_iff.2 hl
  refine Zaf Tryz.func61 rfl (by decide +kernel) (Nat.le_of_ble_eq_true rfl) ?_
  intro hat B X w0
  repeat' first | refine Zad rfl ?_ | refine Zac ?_ | refine Zcx (Nat.beq 5) hmix ?_ | (refine Zaa rfl rfl (fun hc => ?_) (fun hc => ?_) <;> try simp only [hcL] at hc) | (refine Zab _ rfl rfl (fun hc => ?_) (fun hc => ?_) <;> (try simp only [hcL] at hc) <;> try omega) | simp (disch := omega) only [go_sem, simprocAttr, he, Zbb, Zae] | exact arc_cells l | apply And.intro | omega | decide +kernel
  exact Zci (o := 7) rfl rfl (by simp) (List.take_of_length_le (by simp))
theorem cloneI_spec (l : List Int) (hn : l.length ≤ 1000000) : Zah Tryz.prog 62 [Zak l] (Zak l) := by
 rcases Decidable.em (l = []) with rfl | hl
 ·refine Zaf Tryz.func62 rfl (by decide +kernel) (Nat.le_of_ble_eq_true rfl) ?_
  intro hat B X w0
  repeat' first | refine Zad rfl ?_ | refine Zac ?_ | refine wR ?_ | (refine Zaa rfl rfl (fun hc => ?_) (fun hc => ?_) <;> try simp only [hcL] at hc) | (refine Zab _ rfl rfl (fun hc => ?_) (fun hc => ?_) <;> (try simp only [hcL] at hc) <;> try omega) | simp (disch := omega) only [go_sem, simprocAttr] | apply And.intro | omega | decide +kernel
  refine pw_anyb 4 rfl ?_
  intro b
  cases b
  ·repeat' first | refine Zad rfl ?_ | refine Zac ?_ | refine Zcx (Nat.beq 5) hmix ?_ | (refine Zaa rfl rfl (fun hc => ?_) (fun hc => ?_) <;> try simp only [hcL] at hc) | (refine Zab _ rfl rfl (fun hc => ?_) (fun hc => ?_) <;> (try simp only [hcL] at hc) <;> try omega) | simp (disch := omega) only [go_sem, simprocAttr, Zbb] | apply And.intro | omega | decide +kernel
   exact Zcd rfl
  ·repeat' first | refine Zad rfl ?_ | refine Zac ?_ | refine wR ?_ | (refine Zaa rfl rfl (fun hc => ?_) (fun hc => ?_) <;> try simp only [hcL] at hc) | (refine Zab _ rfl rfl (fun hc => ?_) (fun hc => ?_) <;> (try simp only [hcL] at hc) <;> try omega) | simp (disch := omega) only [go_sem, simprocAttr] | apply And.intro | omega | decide +kernel
   exact Zcd rfl
 ·have he : (l.map D.int).isEmpty = false := by simpa using hl
  have hpos : 0 < l.length := List.length_pos_iff.2 hl
  refine Zaf Tryz.func62 rfl (by decide +kernel) (Nat.le_of_ble_eq_true rfl) ?_
  intro hat B X w0
  repeat' first | refine Zad rfl ?_ | refine Zac ?_ | refine Zcx (Nat.beq 5) hmix ?_ | (refine Zaa rfl rfl (fun hc => ?_) (fun hc => ?_) <;> try simp only [hcL] at hc) | (refine Zab _ rfl rfl (fun hc => ?_) (fun hc => ?_) <;> (try simp only [hcL] at hc) <;> try omega) | simp (disch := omega) only [go_sem, simprocAttr, he, Zbb, Zae] | exact Zbs l | apply And.intro | omega | decide +kernel
  exact Zci (o := 7) rfl rfl (by simp) (List.take_of_length_le (by simp))
theorem clone_spec (l : List (List Int)) (hn : l.length ≤ 1000) (hl : ∀ y, y ∈ l → y.length ≤ 1000000) : Zai Tryz.prog 87 [.d (Zaj l)] [(2000, .dead)] (.ref 2000 1 0 l.length l.length) [(2000, .row 1 (l.map Zak))] := by
 refine Zag Tryz.func87 rfl (by decide +kernel) (Nat.le_of_ble_eq_true rfl) rfl (Zba rfl) rfl rfl rfl ?_
 intro B X w0
 repeat' first | refine Zad rfl ?_ | refine Zac ?_ | refine wR ?_ | (refine Zaa rfl rfl (fun hc => ?_) (fun hc => ?_) <;> try simp only [hcL] at hc) | (refine Zab _ rfl rfl (fun hc => ?_) (fun hc => ?_) <;> (try simp only [hcL] at hc) <;> try omega) | simp (disch := omega) only [go_sem, simprocAttr] | apply And.intro | omega | decide +kernel
 refine Zbd _ (ent_nilRow 7 l.length rfl) ?_
 refine Zap (κ := Nat) (fun (k : Nat) => k ≤ l.length) (fun (k : Nat) => [(0, .d (Zaj l)), (3, .ref 7 1 0 l.length l.length), (9, .int l.length), (10, .int k)]) (fun (k : Nat) => [(7, .row 1 ((l.take k).map Zak ++ List.replicate (l.length - k) (.sl [])))]) (fun (k : Nat) => l.length - k) 0 ?_ ?_ ?_
 ·exact Nat.zero_le _
 ·exact eL [] _ _ (by refine ⟨?_, ?_⟩ <;> (repeat' first | exact fmn | refine fmc ⟨(by first | rfl | (simp (disch := omega) only [go_sem, simprocAttr, inL, List.take_zero, List.map_nil, List.nil_append, Nat.sub_zero]; first | done | omega | (congr 1; done))), ?_⟩); done)
 ·intro k hk
  rcases Nat.lt_or_ge k l.length with hlt | hge
  ·obtain ⟨p, hp⟩ := Zan hlt
   have hcp := cloneI_spec p (hl p (List.mem_of_getElem? hp))
   have hst : ((l.take k).map Zak ++ List.replicate (l.length - k) (D.sl [])).set k (Zak p) = (l.take (k + 1)).map Zak ++ List.replicate (l.length - (k + 1)) (D.sl []) := by
    have hlk : ((l.take k).map Zak).length = k := by rw [List.length_map, List.length_take]; omega
    have e : l.length - k = (l.length - (k + 1)) + 1 := by omega
    rw [List.set_append, hlk, if_neg (by omega), Nat.sub_self, e, List.replicate_succ, List.set_cons_zero, Zat hp, List.map_append, List.append_assoc]
    rfl
   have hLn : ((l.take k).map Zak ++ List.replicate (l.length - k) (D.sl [])).length = l.length := by
    rw [List.length_append, List.length_map, List.length_take, List.length_replicate]; omega
   have hgk : ((l.take k).map Zak ++ List.replicate (l.length - k) (D.sl []))[k]? = some (D.sl []) := by
    rw [List.getElem?_append_right (by rw [List.length_map, List.length_take]; omega), List.length_map, List.length_take, Nat.min_eq_left (by omega), Nat.sub_self, List.getElem?_replicate, if_pos (by omega)]
   repeat' first | refine Zad rfl ?_ | refine Zac ?_ | refine wR ?_ | (refine rc (hcp) rfl ?_ ?_; (· first | rfl | simp (disch := omega) only [go_sem, simprocAttr, hp, hLn, hgk])) | (refine Zaa rfl rfl (fun hc => ?_) (fun hc => ?_) <;> try simp only [hcL] at hc) | (refine Zab _ rfl rfl (fun hc => ?_) (fun hc => ?_) <;> (try simp only [hcL] at hc) <;> try omega) | simp (disch := omega) only [go_sem, simprocAttr, hp, hLn, hgk] | apply And.intro | omega | decide +kernel
   refine ⟨k + 1, ?_, eL [] _ _ (by refine ⟨?_, ?_⟩ <;> (repeat' first | exact fmn | refine fmc ⟨(by first | rfl | (simp (disch := omega) only [go_sem, simprocAttr, inL, hst]; first | done | omega | (congr 1; done))), ?_⟩); done), ?_⟩
   ·omega
   ·omega
  ·have : k = l.length := by omega
   subst this
   try dsimp only
   rw [List.take_length, Nat.sub_self, List.replicate_zero, List.append_nil]
   repeat' first | refine Zad rfl ?_ | refine wR ?_ | (refine Zaa rfl rfl (fun hc => ?_) (fun hc => ?_) <;> try simp only [hcL] at hc) | (refine Zab _ rfl rfl (fun hc => ?_) (fun hc => ?_) <;> (try simp only [hcL] at hc) <;> try omega) | simp (disch := omega) only [go_sem, simprocAttr] | apply And.intro | omega | decide +kernel
   refine eR [(2000, 7)] [(2, .ref 2000 1 0 _ _)] [(2000, .row 1 _)] (by refine ⟨?_, ?_⟩ <;> (repeat' first | exact fmn | refine fmc ⟨(by first | rfl | (simp (disch := omega) only [go_sem, simprocAttr, inL]; first | done | omega | (congr 1; done))), ?_⟩); done) ?_
   refine Zac ?_
   exact ⟨rfl, List.forall_mem_cons.2 ⟨rfl, List.forall_mem_nil _⟩⟩
theorem chainsF_get {r : List Int} {l : List Arc} {k : Nat} {a : Arc} (ha : l[k]? = some a) : ∀ e, k < e → e ≤ l.length → (Zbi r l e)[k]? = some (Zaz r (allR r l k).length a)
 | 0, h, _ => by omega
 | e + 1, h, he => by
  have hl := chainsF_len r l e (by omega)
  rw [Zbi, catN]
  rw [Zbi] at hl
  rcases Nat.lt_succ_iff_lt_or_eq.1 h with h1 | rfl
  ·rw [List.getElem?_append_left (by rw [hl]; exact h1)]
   exact chainsF_get ha e h1 (by omega)
  ·rw [List.getElem?_append_right (by rw [hl]; exact Nat.le_refl _), hl, Nat.sub_self, chainAt, ha]
   rfl
theorem Zcu {a : Lv} (h : Zay a = true) : a.2.2.1.length ≤ 800 ∧ a.2.2.2.length ≤ 256 ∧ ∀ y, y ∈ a.2.2.2 → y.length ≤ 260 := by
 obtain ⟨b, hm, hr⟩ := valid_built h
 have h1 : a.2.2.1 = Zcf (Zbu a) (srcG a).2 (srcG a).2.length := congrArg (fun x : Lv => x.2.2.1) hm
 have h2 : a.2.2.2 = Zbi (Zbu a) (srcG a).2 (srcG a).2.length := congrArg (fun x : Lv => x.2.2.2) hm
 have h3 := arcsF_len b.gap (srcG a).2.length (Nat.le_refl _)
 have h4 := chainsF_len (Zbu a) (srcG a).2 (srcG a).2.length (Nat.le_refl _)
 have h5 := b.all_len
 have h6 := (gOk_in b.gok).2.2.1
 rw [← h1] at h3
 rw [← h2] at h4
 refine ⟨by omega, by omega, fun y hy => ?_⟩
 obtain ⟨k, hk⟩ := List.getElem?_of_mem hy
 have hkl := (List.getElem?_eq_some_iff.1 hk).1
 obtain ⟨x, hx⟩ := Zan (l := (srcG a).2) (k := k) (by omega)
 rw [h2, chainsF_get hx _ (by omega) (Nat.le_refl _), Option.some.injEq] at hk
 rw [← hk, chainOf_len, gapN]
 have g1 := b.rk x.1.toNat
 have g2 := b.rk x.2.toNat
 have g3 := b.ends hx
 rw [show ((x.1.toNat : Nat) : Int) = x.1 by omega] at g1
 rw [show ((x.2.toNat : Nat) : Int) = x.2 by omega] at g2
 omega
def Zcj (a : Lv) (i : Int) (o : List Int) : Lv × Int :=
 if Zay a = false then (lv0, 1) else if i < 0 ∨ (a.2.1.length : Int) ≤ i then (lv0, 3)
 else if sortL o ≠ sortL ((a.2.1[i.toNat]?).getD []) then (lv0, 6) else ((a.1, a.2.1.set i.toNat o, a.2.2.1, a.2.2.2), 0)
set_option maxHeartbeats 4000000 in
theorem Reorder_spec (a : Lv) (i : Int) (o : List Int) (hw : wide a) (ho : o.length ≤ 600) : Zah Tryz.prog 56 [lvD a, .int i, Zak o] (.tup [lvD (Zcj a i o).1, .int (Zcj a i o).2]) := by
 have hv := Zbx a hw
 rw [Zcj]
 rcases h : Zay a with _ | _ <;> rw [h] at hv
 ·rw [if_pos rfl]
  refine Zaf Tryz.func56 rfl (by decide +kernel) (Nat.le_of_ble_eq_true rfl) ?_
  intro hat B X w0
  repeat' first | refine Zad rfl ?_ | refine Zac ?_ | refine wR ?_ | (refine rc (hv) rfl ?_ ?_; (· first | rfl | simp (disch := omega) only [go_sem, simprocAttr, List.append_eq])) | (refine Zaa rfl rfl (fun hc => ?_) (fun hc => ?_) <;> try simp only [hcL] at hc) | (refine Zab _ rfl rfl (fun hc => ?_) (fun hc => ?_) <;> (try simp only [hcL] at hc) <;> try omega) | simp (disch := omega) only [go_sem, simprocAttr, List.append_eq] | apply And.intro | omega | decide +kernel
  refine ⟨_, rfl, ⟨_, _, _, _, rfl, ?_⟩, Zar ?_, trivial⟩
  ·simp (disch := omega) only [go_sem, simprocAttr, toD]
   rfl
  ·rfl
 ·rw [if_neg (by decide)]
  obtain ⟨t1, t2⟩ := Zcq h
  by_cases hi : i < 0 ∨ (a.2.1.length : Int) ≤ i
  ·rw [if_pos hi]
   obtain ⟨n, ls, ar, cs⟩ := a
   dsimp only at hi t1
   refine Zaf Tryz.func56 rfl (by decide +kernel) (Nat.le_of_ble_eq_true rfl) ?_
   intro hat B X w0
   repeat' first | refine Zad rfl ?_ | refine Zac ?_ | refine wR ?_ | (refine rc (hv) rfl ?_ ?_; (· first | rfl | simp (disch := omega) only [go_sem, simprocAttr, List.append_eq])) | (refine Zaa rfl rfl (fun hc => ?_) (fun hc => ?_) <;> try simp only [hcL] at hc) | (refine Zab _ rfl rfl (fun hc => ?_) (fun hc => ?_) <;> (try simp only [hcL] at hc) <;> try omega) | simp (disch := omega) only [go_sem, simprocAttr, List.append_eq] | apply And.intro | omega | decide +kernel
   all_goals
    refine ⟨_, rfl, ⟨_, _, _, _, rfl, ?_⟩, Zar ?_, trivial⟩
    ·simp (disch := omega) only [go_sem, simprocAttr, toD]
     rfl
    ·rfl
  ·rw [if_neg hi]
   obtain ⟨y, hy⟩ := Zan (l := a.2.1) (k := i.toNat) (by omega)
   have hyl := Zbq (List.mem_of_getElem? hy)
   rw [hy, Option.getD_some]
   have hv1 := Values_spec o
   have hv2 := Values_spec y
   have hs1 := Sorted_spec o (by omega)
   have hs2 := Sorted_spec y (by omega)
   have he := equalI_spec (sortL o) (sortL y)
   by_cases hso : sortL o = sortL y
   ·rw [if_neg (by simpa using hso)]
    rw [decide_eq_true hso] at he
    have hcl := clone_spec a.2.1 (by omega) (fun y hy => by have := Zbq hy; omega)
    have hbd : a.2.2.1.length ≤ 1000000 ∧ a.2.2.2.length ≤ 1000 ∧ ∀ y, y ∈ a.2.2.2 → y.length ≤ 1000000 := by
     obtain ⟨s1, s2, s3⟩ := Zcu h
     exact ⟨by omega, by omega, fun y hy => by have := s3 y hy; omega⟩
    have hca := cloneA_spec a.2.2.1 hbd.1
    have hcc := clone_spec a.2.2.2 hbd.2.1 hbd.2.2
    have hco := cloneI_spec o (by omega)
    obtain ⟨n, ls, ar, cs⟩ := a
    dsimp only at hi t1 hy hcl hca hcc
    refine Zaf Tryz.func56 rfl (by decide +kernel) (Nat.le_of_ble_eq_true rfl) ?_
    intro hat B X w0
    repeat' first | refine Zad rfl ?_ | refine Zac ?_ | refine wR ?_ | (refine rc (hv) rfl ?_ ?_; (· first | rfl | simp (disch := omega) only [go_sem, simprocAttr, List.append_eq, hy])) | (refine rc (hv1) rfl ?_ ?_; (· first | rfl | simp (disch := omega) only [go_sem, simprocAttr, List.append_eq, hy])) | (refine rc (hv2) rfl ?_ ?_; (· first | rfl | simp (disch := omega) only [go_sem, simprocAttr, List.append_eq, hy])) | (refine rc (hs1) rfl ?_ ?_; (· first | rfl | simp (disch := omega) only [go_sem, simprocAttr, List.append_eq, hy])) | (refine rc (hs2) rfl ?_ ?_; (· first | rfl | simp (disch := omega) only [go_sem, simprocAttr, List.append_eq, hy])) | (refine rc (he) rfl ?_ ?_; (· first | rfl | simp (disch := omega) only [go_sem, simprocAttr, List.append_eq, hy])) | refine rcM [(2000, 43)] (hcl) rfl ?_ | refine rcM [(2000, 49)] (hcc) rfl ?_ | (refine rc (hca) rfl ?_ ?_; (· first | rfl | simp (disch := omega) only [go_sem, simprocAttr, List.append_eq, hy])) | (refine rc (hco) rfl ?_ ?_; (· first | rfl | simp (disch := omega) only [go_sem, simprocAttr, List.append_eq, hy])) | (refine Zaa rfl rfl (fun hc => ?_) (fun hc => ?_) <;> try simp only [hcL] at hc) | (refine Zab _ rfl rfl (fun hc => ?_) (fun hc => ?_) <;> (try simp only [hcL] at hc) <;> try omega) | simp (disch := omega) only [go_sem, simprocAttr, List.append_eq, hy] | apply And.intro | omega | decide +kernel
    refine ⟨_, rfl, ⟨_, _, _, _, rfl, ?_⟩, Zar rfl, trivial⟩
    simp (disch := omega) only [go_sem, simprocAttr, toD, List.length_map, List.length_set, Nat.le_refl, List.drop_zero]
    rw [List.take_of_length_le (by rw [List.length_set, List.length_map]; exact Nat.le_refl _), List.take_of_length_le (by rw [List.length_map]; exact Nat.le_refl _)]
    simp only [lvD, Zaj, List.map_set]
   ·rw [if_pos (by simpa using hso)]
    rw [decide_eq_false hso] at he
    obtain ⟨n, ls, ar, cs⟩ := a
    dsimp only at hi t1 hy
    refine Zaf Tryz.func56 rfl (by decide +kernel) (Nat.le_of_ble_eq_true rfl) ?_
    intro hat B X w0
    repeat' first | refine Zad rfl ?_ | refine Zac ?_ | refine wR ?_ | (refine rc (hv) rfl ?_ ?_; (· first | rfl | simp (disch := omega) only [go_sem, simprocAttr, List.append_eq, hy])) | (refine rc (hv1) rfl ?_ ?_; (· first | rfl | simp (disch := omega) only [go_sem, simprocAttr, List.append_eq, hy])) | (refine rc (hv2) rfl ?_ ?_; (· first | rfl | simp (disch := omega) only [go_sem, simprocAttr, List.append_eq, hy])) | (refine rc (hs1) rfl ?_ ?_; (· first | rfl | simp (disch := omega) only [go_sem, simprocAttr, List.append_eq, hy])) | (refine rc (hs2) rfl ?_ ?_; (· first | rfl | simp (disch := omega) only [go_sem, simprocAttr, List.append_eq, hy])) | (refine rc (he) rfl ?_ ?_; (· first | rfl | simp (disch := omega) only [go_sem, simprocAttr, List.append_eq, hy])) | (refine Zaa rfl rfl (fun hc => ?_) (fun hc => ?_) <;> try simp only [hcL] at hc) | (refine Zab _ rfl rfl (fun hc => ?_) (fun hc => ?_) <;> (try simp only [hcL] at hc) <;> try omega) | simp (disch := omega) only [go_sem, simprocAttr, List.append_eq, hy] | apply And.intro | omega | decide +kernel
    refine ⟨_, rfl, ⟨_, _, _, _, rfl, ?_⟩, Zar ?_, trivial⟩
    ·simp (disch := omega) only [go_sem, simprocAttr, toD]
     rfl
    ·rfl
end Go.Proofs.YtldbcbclhpcofaaGreat
namespace Go.Proofs.YtldbcbclhpcofaaGreat
open Go Go.PS Go.Proofs
set_option maxRecDepth 100000
attribute [local irreducible] Zax wpG Zah Zai

set_option maxHeartbeats 4000000 in
theorem rReorder_spec (a : Lv) (i : Int) (o : List Int) (hw : wide a) (ho : o.length ≤ 600) : Zah Tryz.prog 22 [lvD a, .int i, Zak o] (.tup [lvD (Zcj a i o).1, .int (Zcj a i o).2]) := by
 have hv := Zbw a hw
 rw [← valid_same] at hv
 rw [Zcj]
 rcases h : Zay a with _ | _ <;> rw [h] at hv
 ·rw [if_pos rfl]
  refine Zaf Tryz.func22 rfl (by decide +kernel) (Nat.le_of_ble_eq_true rfl) ?_
  intro hat B X w0
  repeat' first | refine Zad rfl ?_ | refine Zac ?_ | refine wR ?_ | (refine rc (hv) rfl ?_ ?_; (· first | rfl | simp (disch := omega) only [go_sem, simprocAttr, List.append_eq])) | (refine Zaa rfl rfl (fun hc => ?_) (fun hc => ?_) <;> try simp only [hcL] at hc) | (refine Zab _ rfl rfl (fun hc => ?_) (fun hc => ?_) <;> (try simp only [hcL] at hc) <;> try omega) | simp (disch := omega) only [go_sem, simprocAttr, List.append_eq] | apply And.intro | omega | decide +kernel
  refine ⟨_, rfl, ⟨_, _, _, _, rfl, ?_⟩, Zar ?_, trivial⟩
  ·simp (disch := omega) only [go_sem, simprocAttr, toD]
   rfl
  ·rfl
 ·rw [if_neg (by decide)]
  obtain ⟨t1, t2⟩ := Zcq h
  by_cases hi : i < 0 ∨ (a.2.1.length : Int) ≤ i
  ·rw [if_pos hi]
   obtain ⟨n, ls, ar, cs⟩ := a
   dsimp only at hi t1
   refine Zaf Tryz.func22 rfl (by decide +kernel) (Nat.le_of_ble_eq_true rfl) ?_
   intro hat B X w0
   repeat' first | refine Zad rfl ?_ | refine Zac ?_ | refine wR ?_ | (refine rc (hv) rfl ?_ ?_; (· first | rfl | simp (disch := omega) only [go_sem, simprocAttr, List.append_eq])) | (refine Zaa rfl rfl (fun hc => ?_) (fun hc => ?_) <;> try simp only [hcL] at hc) | (refine Zab _ rfl rfl (fun hc => ?_) (fun hc => ?_) <;> (try simp only [hcL] at hc) <;> try omega) | simp (disch := omega) only [go_sem, simprocAttr, List.append_eq] | apply And.intro | omega | decide +kernel
   all_goals
    refine ⟨_, rfl, ⟨_, _, _, _, rfl, ?_⟩, Zar ?_, trivial⟩
    ·simp (disch := omega) only [go_sem, simprocAttr, toD]
     rfl
    ·rfl
  ·rw [if_neg hi]
   obtain ⟨y, hy⟩ := Zan (l := a.2.1) (k := i.toNat) (by omega)
   have hyl := Zbq (List.mem_of_getElem? hy)
   rw [hy, Option.getD_some]
   have hs1 := rSort_spec o (by omega)
   have hs2 := rSort_spec y (by omega)
   have he := sameI_spec (sortL o) (sortL y)
   obtain ⟨n, ls, ar, cs⟩ := a
   dsimp only at hi t1 hy hyl t2
   by_cases hso : sortL o = sortL y
   ·rw [if_neg (by simpa using hso)]
    rw [decide_eq_true hso] at he
    have hlen : o.length = y.length := by rw [← sortL_len o, hso, sortL_len]
    obtain ⟨p, rfl⟩ : ∃ p : Nat, i = p := ⟨i.toNat, by omega⟩
    rw [Int.toNat_natCast] at hy ⊢
    refine Zaf Tryz.func22 rfl (by decide +kernel) (Nat.le_of_ble_eq_true rfl) ?_
    intro hat B X w0
    repeat' first | refine Zad rfl ?_ | refine Zac ?_ | refine wR ?_ | (refine rc (hv) rfl ?_ ?_; (· first | rfl | simp (disch := omega) only [go_sem, simprocAttr, List.append_eq, hy, hlen])) | (refine rc (hs1) rfl ?_ ?_; (· first | rfl | simp (disch := omega) only [go_sem, simprocAttr, List.append_eq, hy, hlen])) | (refine rc (hs2) rfl ?_ ?_; (· first | rfl | simp (disch := omega) only [go_sem, simprocAttr, List.append_eq, hy, hlen])) | (refine rc (he) rfl ?_ ?_; (· first | rfl | simp (disch := omega) only [go_sem, simprocAttr, List.append_eq, hy, hlen])) | (refine Zaa rfl rfl (fun hc => ?_) (fun hc => ?_) <;> try simp only [hcL] at hc) | (refine Zab _ rfl rfl (fun hc => ?_) (fun hc => ?_) <;> (try simp only [hcL] at hc) <;> try omega) | simp (disch := omega) only [go_sem, simprocAttr, List.append_eq, hy, hlen] | apply And.intro | omega | decide +kernel
    refine Zbd _ (Zcl 8 1 901 1 rfl rfl rfl) ?_
    refine Zap (κ := Nat) (fun (k : Nat) => k ≤ ls.length) (fun (k : Nat) => [(1, .int p), (2, .d (Zak o)), (3, .ptr 3 0 0 0), (6, .ptr 6 0 0 0), (8, .ptr 8 0 0 0), (9, .int k)]) (fun (k : Nat) => [(3, .cells [.int n, .d (Zaj ls), .d (Zal ar), .d (Zaj cs)]), (6, .cells [.int 0, .nilS, .nilS, .nilS]), (8, .cells [.int n, .ref 901 1 0 k k, .d (Zal ar), .d (Zaj cs)]), (901, .row 1 (((ls.set p o).take k).map Zak))]) (fun (k : Nat) => ls.length - k) 0 ?_ ?_ ?_
    ·exact Nat.zero_le _
    ·exact eL [] _ _ (by refine ⟨?_, ?_⟩ <;> (repeat' first | exact fmn | refine fmc ⟨(by first | rfl | (simp (disch := omega) only [go_sem, simprocAttr, inL, List.take_zero, List.map_nil]; first | done | omega | (congr 1; done))), ?_⟩); done)
    ·intro k hk
     have hlk : (((ls.set p o).take k).map Zak).length = k := by rw [List.length_map, List.length_take, List.length_set]; omega
     have htk : List.take k (((ls.set p o).take k).map Zak) = ((ls.set p o).take k).map Zak := List.take_of_length_le (by rw [hlk]; exact Nat.le_refl _)
     rcases Nat.lt_or_ge k ls.length with hlt | hge
     ·obtain ⟨q, hq⟩ := Zan hlt
      by_cases hkp : k = p
      ·subst hkp
       have hts := Zat (l := ls.set k o) (k := k) (x := o) (by rw [List.getElem?_set, if_pos rfl, if_pos hlt])
       repeat' first | refine Zad rfl ?_ | refine Zac ?_ | refine wR ?_ | (refine Zaa rfl rfl (fun hc => ?_) (fun hc => ?_) <;> try simp only [hcL] at hc) | (refine Zab _ rfl rfl (fun hc => ?_) (fun hc => ?_) <;> (try simp only [hcL] at hc) <;> try omega) | simp (disch := omega) only [go_sem, simprocAttr, hq, hlk, Zbb] | apply And.intro | omega | decide +kernel
       refine ⟨k + 1, ?_, eL [(901, 67)] _ _ (by refine ⟨?_, ?_⟩ <;> (repeat' first | exact fmn | refine fmc ⟨(by first | rfl | (simp (disch := omega) only [go_sem, simprocAttr, inL, hts, List.map_append, htk]; first | done | omega | (congr 1; done))), ?_⟩); done), ?_⟩
       ·omega
       ·omega
      ·have hts := Zat (l := ls.set p o) (k := k) (x := q) (by rw [List.getElem?_set, if_neg (by omega), hq])
       have hkp2 : ¬ (k : Int) = p := by omega
       repeat' first | refine Zad rfl ?_ | refine Zac ?_ | refine wR ?_ | (refine Zaa rfl rfl (fun hc => ?_) (fun hc => ?_) <;> try simp only [hcL] at hc) | (refine Zab _ rfl rfl (fun hc => ?_) (fun hc => ?_) <;> (try simp only [hcL] at hc) <;> try omega) | simp (disch := omega) only [go_sem, simprocAttr, hq, hlk, Zbb, hkp2] | apply And.intro | omega | decide +kernel
       refine ⟨k + 1, ?_, eL [(901, 77)] _ _ (by refine ⟨?_, ?_⟩ <;> (repeat' first | exact fmn | refine fmc ⟨(by first | rfl | (simp (disch := omega) only [go_sem, simprocAttr, inL, hts, List.map_append, htk]; first | done | omega | (congr 1; done))), ?_⟩); done), ?_⟩
       ·omega
       ·omega
     ·have : k = ls.length := by omega
      subst this
      repeat' first | refine Zad rfl ?_ | refine Zac ?_ | refine wR ?_ | (refine Zaa rfl rfl (fun hc => ?_) (fun hc => ?_) <;> try simp only [hcL] at hc) | (refine Zab _ rfl rfl (fun hc => ?_) (fun hc => ?_) <;> (try simp only [hcL] at hc) <;> try omega) | simp (disch := omega) only [go_sem, simprocAttr] | apply And.intro | omega | decide +kernel
      refine ⟨_, rfl, ⟨_, _, _, _, rfl, ?_⟩, Zar rfl, trivial⟩
      have htl : (ls.set p o).take ls.length = ls.set p o := List.take_of_length_le (by rw [List.length_set]; exact Nat.le_refl _)
      simp (disch := omega) only [go_sem, simprocAttr, toD, htl, List.length_map, List.length_set, Nat.le_refl, List.drop_zero]
      rw [List.take_of_length_le (by rw [List.length_map, List.length_set]; exact Nat.le_refl _)]
   ·rw [if_pos (by simpa using hso)]
    rw [decide_eq_false hso] at he
    by_cases hlen : o.length = y.length
    all_goals
     refine Zaf Tryz.func22 rfl (by decide +kernel) (Nat.le_of_ble_eq_true rfl) ?_
     intro hat B X w0
     have hol := at_len 2 hat rfl
     rw [List.length_map] at hol
     repeat' first | refine Zad rfl ?_ | refine Zac ?_ | refine wR ?_ | (refine rc (hv) rfl ?_ ?_; (· first | rfl | simp (disch := omega) only [go_sem, simprocAttr, List.append_eq, hy, hlen])) | (refine rc (hs1) rfl ?_ ?_; (· first | rfl | simp (disch := omega) only [go_sem, simprocAttr, List.append_eq, hy, hlen])) | (refine rc (hs2) rfl ?_ ?_; (· first | rfl | simp (disch := omega) only [go_sem, simprocAttr, List.append_eq, hy, hlen])) | (refine rc (he) rfl ?_ ?_; (· first | rfl | simp (disch := omega) only [go_sem, simprocAttr, List.append_eq, hy, hlen])) | (refine Zaa rfl rfl (fun hc => ?_) (fun hc => ?_) <;> try simp only [hcL] at hc) | (refine Zab _ rfl rfl (fun hc => ?_) (fun hc => ?_) <;> (try simp only [hcL] at hc) <;> try omega) | simp (disch := omega) only [go_sem, simprocAttr, List.append_eq, hy, hlen] | apply And.intro | omega | decide +kernel
     all_goals
      refine ⟨_, rfl, ⟨_, _, _, _, rfl, ?_⟩, Zar ?_, trivial⟩
      ·simp (disch := omega) only [go_sem, simprocAttr, toD]
       rfl
      ·rfl
theorem valid_sort {a b : Lv} (h : sortLv a = sortLv b) : Zay a = Zay b := by
 obtain ⟨n, ls, ar, cs⟩ := a
 obtain ⟨n', ls', ar', cs'⟩ := b
 simp only [sortLv, Prod.mk.injEq] at h
 obtain ⟨rfl, h, rfl, rfl⟩ := h
 have hlay : ∀ v, layI ls v = layI ls' v := fun v => by rw [← sort_lay, h, sort_lay]
 have hlen : ls.length = ls'.length := by rw [← List.length_map (f := sortL), h, List.length_map]
 simp only [Zay, headOk, foundOk, srcG, Zbu, lostV, sortLv, hlay, hlen, h]
 have e : ∀ w : Nat → Bool, w = w := fun _ => rfl
 congr 3
 ·congr 1
  congr 1
  funext v
  simp only [lostV, hlay]
theorem reorder_sort {a : Lv} {i : Nat} {o y : List Int} (hy : a.2.1[i]? = some y) (h : sortL o = sortL y) : sortLv (a.1, a.2.1.set i o, a.2.2.1, a.2.2.2) = sortLv a := by
 simp only [sortLv, List.map_set, h]
 congr 2
 refine List.ext_getElem? fun u => ?_
 rw [List.getElem?_set]
 split
 ·subst i
  rw [List.getElem?_map, hy]
  split
  ·rfl
  ·rename_i hn
   rw [List.length_map] at hn
   exact absurd (List.getElem?_eq_some_iff.1 hy).1 hn
 ·rfl
theorem reorder_valid {a : Lv} {i : Int} {o : List Int} (h : (Zcj a i o).2 = 0) : Zay (Zcj a i o).1 = true := by
 rw [Zcj] at h ⊢
 split at h
 ·cases h
 ·rename_i h1
  split at h
  ·cases h
  ·rename_i h2
   split at h
   ·cases h
   ·rename_i h3
    rw [if_neg h1, if_neg h2, if_neg h3]
    obtain ⟨y, hy⟩ := Zan (l := a.2.1) (k := i.toNat) (by omega)
    rw [hy, Option.getD_some] at h3
    rw [valid_sort (reorder_sort hy (Decidable.not_not.1 h3))]
    simpa using h1
theorem reorder_wide {a : Lv} {i : Int} {o : List Int} (hw : wide a) (ho : o.length ≤ 600) : wide (Zcj a i o).1 := by
 rw [Zcj]
 split
 ·intro y hy; cases hy
 ·split
  ·intro y hy; cases hy
  ·split
   ·intro y hy; cases hy
   ·intro y hy
    rcases List.mem_or_eq_of_mem_set hy with hy | rfl
    ·exact hw y hy
    ·omega
end Go.Proofs.YtldbcbclhpcofaaGreat
namespace Go.Proofs.YtldbcbclhpcofaaGreat
open Go Go.PS Go.Proofs
set_option maxRecDepth 100000
attribute [local irreducible] Zax wpG Zah Zai

theorem at0_left {l m : List Int} {n : Nat} (h : n < l.length) : at0 (l ++ m) n = at0 l n := by
 rw [at0, at0, Int.toNat_natCast, List.getElem?_append_left h]
theorem allR_pre (r : List Int) (l : List Arc) {e m : Nat} (h : e ≤ m) : ∃ x, allR r l m = allR r l e ++ x := by
 refine ⟨((l.drop e).take (m - e)).flatMap fun a => news r a (gapN r a), ?_⟩
 rw [allR, allR, List.append_assoc, ← List.flatMap_append]
 congr 2
 obtain ⟨k, rfl⟩ : ∃ k, m = e + k := ⟨m - e, by omega⟩
 rw [List.take_add, Nat.add_sub_cancel_left]
theorem arcsF_succ {r : List Int} {l : List Arc} {e : Nat} {a : Arc} (ha : l[e]? = some a) : Zcf r l (e + 1) = Zcf r l e ++ pairsN (Zaz r (allR r l e).length a) (gapN r a + 1) := by
 rw [Zcf, catN, arcsAt, ha]; rfl
theorem chainOf_first (r : List Int) (n0 : Nat) (a : Arc) : at0 (Zaz r n0 a) ((0 : Nat) : Int) = a.1 := rfl
theorem chainOf_mid {r : List Int} {n0 : Nat} {a : Arc} {j : Nat} (h : j < gapN r a) : at0 (Zaz r n0 a) ((j + 1 : Nat) : Int) = ((n0 + j : Nat) : Int) := by
 rw [Zaz, at0_left (by rw [chainUp_len]; omega), at0, Int.toNat_natCast, Zcg, List.getElem?_cons_succ]
 simp [h]
theorem chainOf_last (r : List Int) (n0 : Nat) (a : Arc) : at0 (Zaz r n0 a) ((gapN r a + 1 : Nat) : Int) = a.2 := by
 rw [at0, Int.toNat_natCast, Zaz, List.getElem?_append_right (by rw [chainUp_len]; exact Nat.le_refl _), chainUp_len, Nat.sub_self]; rfl
namespace Built
variable {g : Gr} {r : List Int}
theorem chain_at (b : Built g r) {e j : Nat} {a : Arc} (ha : g.2[e]? = some a) (hj : j ≤ gapN r a + 1) :
  0 ≤ at0 (Zaz r (allR r g.2 e).length a) j ∧ at0 (Zaz r (allR r g.2 e).length a) j < (allR r g.2 g.2.length).length ∧ at0 (allR r g.2 g.2.length) (at0 (Zaz r (allR r g.2 e).length a) j) = at0 r a.1 + j := by
 have hel := (List.getElem?_eq_some_iff.1 ha).1
 have he := b.ends ha
 have hg := b.gap e a ha
 have hl := b.len
 have hge := b.all_ge
 obtain ⟨x, hx⟩ := allR_pre r g.2 (show 0 ≤ g.2.length by omega)
 have h0 : allR r g.2 0 = r := by simp [allR]
 rw [h0] at hx
 have hpre : ∀ v : Int, 0 ≤ v → v < g.1 → at0 (allR r g.2 g.2.length) v = at0 r v := fun v h1 h2 => by
  obtain ⟨n, rfl⟩ : ∃ n : Nat, v = n := ⟨v.toNat, by omega⟩
  rw [hx, at0_left (by omega)]
 rcases Nat.eq_zero_or_pos j with rfl | h1
 ·rw [chainOf_first, hpre _ he.1 he.2.1]
  omega
 ·obtain ⟨j, rfl⟩ : ∃ i, j = i + 1 := ⟨j - 1, by omega⟩
  rcases Nat.lt_or_ge j (gapN r a) with h2 | h2
  ·rw [chainOf_mid h2]
   obtain ⟨y, hy⟩ := allR_pre r g.2 (show e + 1 ≤ g.2.length by omega)
   rw [allR_succ ha] at hy
   have hlen := congrArg List.length hy
   simp only [List.length_append, news_len] at hlen
   refine ⟨by omega, by omega, ?_⟩
   rw [hy, at0_left (by rw [List.length_append, news_len]; omega), at0, Int.toNat_natCast, List.getElem?_append_right (by omega), Nat.add_sub_cancel_left]
   simp only [news, List.getElem?_map, List.getElem?_range h2, Option.map_some, Option.getD_some]
   omega
  ·have hj2 : j = gapN r a := by omega
   subst hj2
   rw [chainOf_last, hpre _ he.2.2.1 he.2.2.2]
   have hgn : (gapN r a : Int) = at0 r a.2 - at0 r a.1 - 1 := by rw [gapN]; omega
   omega
end Built
end Go.Proofs.YtldbcbclhpcofaaGreat
namespace Go.Proofs.YtldbcbclhpcofaaGreat
open Go Go.PS Go.Proofs
set_option maxRecDepth 100000
attribute [local irreducible] Zax wpG Zah Zai

theorem getM_put (m : List (Int × Int)) (k v u : Int) : getM (putM m k v) u = if k = u then v else getM m u := by
 induction m with
 | nil => simp only [putM, getM]
 | cons p m ih =>
  obtain ⟨a, b⟩ := p
  simp only [putM]
  by_cases h : a = k
  ·rw [if_pos h]
   simp only [getM]
   by_cases h2 : k = u
   ·rw [if_pos h2, if_pos h2]
   ·rw [if_neg h2, if_neg h2, if_neg (by rw [h]; exact h2)]
  ·rw [if_neg h]
   simp only [getM, ih]
   by_cases h2 : a = u
   ·rw [if_pos h2, if_neg (by omega)]
    simp [h2]
   ·rw [if_neg h2]; simp [h2]
def rowM (m : List (Int × Int)) (y : List Int) (g : Nat → Int) : Nat → List (Int × Int)
 | 0 => m
 | k + 1 => putM (rowM m y g k) (at0 y k) (g k)
def allM (h : Nat → Nat → Int) (ls : List (List Int)) : Nat → List (Int × Int)
 | 0 => []
 | i + 1 => rowM (allM h ls i) ((ls[i]?).getD []) (h i) (((ls[i]?).getD []).length)
def plM (ls : List (List Int)) : List (Int × Int) := allM (fun _ k => k) ls ls.length
def lyM (ls : List (List Int)) : List (Int × Int) := allM (fun i _ => i) ls ls.length
theorem idxOf_at : ∀ {y : List Int} {k : Nat} {v : Int}, y.Nodup → y[k]? = some v → y.idxOf v = k
 | [], k, v, _, h => by simp at h
 | a :: y, 0, v, _, h => by simp at h; subst h; simp
 | a :: y, k + 1, v, hn, h => by
  have hn2 := List.nodup_cons.1 hn
  have h2 : y[k]? = some v := by simpa using h
  have hne : a ≠ v := fun e => hn2.1 (e ▸ List.mem_of_getElem? h2)
  have ih := idxOf_at hn2.2 h2
  have hb : (a == v) = false := by simpa using hne
  simp [List.idxOf_cons, hb, ih]
theorem getM_row (m : List (Int × Int)) (y : List Int) (g : Nat → Int) (u : Int) : ∀ k, k ≤ y.length → y.Nodup → getM (rowM m y g k) u = if u ∈ y.take k then g (y.idxOf u) else getM m u
 | 0, _, _ => by simp [rowM]
 | k + 1, h, hn => by
  have hk := at0_at (r := y) (i := k) (by omega)
  have hi : y.idxOf (at0 y k) = k := idxOf_at hn hk
  rw [rowM, getM_put, getM_row m y g u k (by omega) hn, Zat hk]
  simp only [List.mem_append, List.mem_singleton]
  by_cases c : at0 y k = u
  ·rw [if_pos c, if_pos (.inr c.symm), ← c, hi]
  ·rw [if_neg c]
   by_cases c2 : u ∈ y.take k
   ·rw [if_pos c2, if_pos (.inl c2)]
   ·rw [if_neg c2, if_neg (by rintro (h1 | h1); exact c2 h1; exact c h1.symm)]
theorem getM_all (h : Nat → Nat → Int) (ls : List (List Int)) (hn : ls.flatten.Nodup) (u : Int) : ∀ i, i ≤ ls.length → (∀ k y, k < i → ls[k]? = some y → u ∈ y → getM (allM h ls i) u = h k (y.idxOf u)) ∧ (u ∉ (ls.take i).flatten → getM (allM h ls i) u = 0)
 | 0, _ => ⟨fun k y hk => by omega, fun _ => rfl⟩
 | i + 1, hi => by
  obtain ⟨y, hy⟩ := Zan (l := ls) (k := i) (by omega)
  obtain ⟨g1, g2⟩ := getM_all h ls hn u i (by omega)
  have hsub : ∀ z, z ∈ ls → z.Nodup := fun z hz => (List.pairwise_flatten.1 hn).1 z hz
  have hyn := hsub y (List.mem_of_getElem? hy)
  have hr := getM_row (allM h ls i) y (h i) u y.length (Nat.le_refl _) hyn
  rw [List.take_length] at hr
  have ha : allM h ls (i + 1) = rowM (allM h ls i) y (h i) y.length := by rw [allM, hy]; rfl
  rw [ha, hr]
  refine ⟨fun k z hk hz hu => ?_, fun hu => ?_⟩
  ·rcases Nat.lt_succ_iff_lt_or_eq.1 hk with h1 | rfl
   ·have hd := List.pairwise_iff_getElem.1 (List.pairwise_flatten.1 hn).2 k i (List.getElem?_eq_some_iff.1 hz).1 (List.getElem?_eq_some_iff.1 hy).1 h1
    have e1 := (List.getElem?_eq_some_iff.1 hz).2
    have e2 := (List.getElem?_eq_some_iff.1 hy).2
    rw [e1, e2] at hd
    rw [if_neg (fun hu2 => hd u hu u hu2 rfl)]
    exact g1 k z h1 hz hu
   ·rw [hy] at hz; cases hz
    rw [if_pos hu]
  ·rw [Zat hy, List.flatten_append, List.mem_append] at hu
   rw [if_neg (fun hu2 => hu (.inr (by simpa using hu2)))]
   exact g2 fun hu2 => hu (.inl hu2)
set_option maxHeartbeats 4000000 in
theorem places_spec (a : Lv) (hn : a.2.1.length ≤ 1000) (hl : ∀ y, y ∈ a.2.1 → y.length ≤ 1000) : Zai Tryz.prog 86 [.d (lvD a)] [(2000, .dead), (2001, .dead)] (.tup [.mp 2000, .mp 2001]) [(2000, .imap (plM a.2.1)), (2001, .imap (lyM a.2.1))] := by
 obtain ⟨n, ls, ar, cs⟩ := a
 dsimp only at hn hl
 refine Zag Tryz.func86 rfl (by decide +kernel) (Nat.le_of_ble_eq_true rfl) rfl (Zba rfl) rfl rfl rfl ?_
 intro B X w0
 repeat' first | refine Zad rfl ?_ | refine Zac ?_ | refine wR ?_ | (refine Zaa rfl rfl (fun hc => ?_) (fun hc => ?_) <;> try simp only [hcL] at hc) | (refine Zab _ rfl rfl (fun hc => ?_) (fun hc => ?_) <;> (try simp only [hcL] at hc) <;> try omega) | simp (disch := omega) only [go_sem, simprocAttr] | apply And.intro | omega | decide +kernel
 refine Zap (κ := Nat) (fun (i : Nat) => i ≤ ls.length) (fun (i : Nat) => [(1, .ptr 1 0 0 0), (2, .mp 8), (3, .mp 9), (11, .d (Zaj ls)), (12, .int ls.length), (13, .int i)]) (fun (i : Nat) => [(1, .cells [.int n, .d (Zaj ls), .d (Zal ar), .d (Zaj cs)]), (8, .imap (allM (fun _ k => k) ls i)), (9, .imap (allM (fun i _ => i) ls i))]) (fun (i : Nat) => ls.length - i) 0 ?_ ?_ ?_
 ·exact Nat.zero_le _
 ·exact eL [] _ _ (by refine ⟨?_, ?_⟩ <;> (repeat' first | exact fmn | refine fmc ⟨(by first | rfl | (simp (disch := omega) only [go_sem, simprocAttr, inL, allM]; first | done | omega | (congr 1; done))), ?_⟩); done)
 ·intro i hi
  rcases Nat.lt_or_ge i ls.length with hlt | hge
  ·obtain ⟨y, hy⟩ := Zan hlt
   have hyl := hl y (List.mem_of_getElem? hy)
   have e1 : allM (fun _ k => (k : Int)) ls (i + 1) = rowM (allM (fun _ k => (k : Int)) ls i) y (fun k => (k : Int)) y.length := by rw [allM, hy]; rfl
   have e2 : allM (fun i _ => (i : Int)) ls (i + 1) = rowM (allM (fun i _ => (i : Int)) ls i) y (fun _ => (i : Int)) y.length := by rw [allM, hy]; rfl
   repeat' first | refine Zad rfl ?_ | refine Zac ?_ | refine wR ?_ | (refine Zaa rfl rfl (fun hc => ?_) (fun hc => ?_) <;> try simp only [hcL] at hc) | (refine Zab _ rfl rfl (fun hc => ?_) (fun hc => ?_) <;> (try simp only [hcL] at hc) <;> try omega) | simp (disch := omega) only [go_sem, simprocAttr, hy] | apply And.intro | omega | decide +kernel
   refine Zap (κ := Nat) (fun (k : Nat) => k ≤ y.length) (fun (k : Nat) => [(1, .ptr 1 0 0 0), (2, .mp 8), (3, .mp 9), (4, .int i), (11, .d (Zaj ls)), (12, .int ls.length), (13, .int i), (18, .d (Zak y)), (19, .int y.length), (20, .int k)]) (fun (k : Nat) => [(1, .cells [.int n, .d (Zaj ls), .d (Zal ar), .d (Zaj cs)]), (8, .imap (rowM (allM (fun _ k => k) ls i) y (fun k => (k : Int)) k)), (9, .imap (rowM (allM (fun i _ => i) ls i) y (fun _ => (i : Int)) k))]) (fun (k : Nat) => y.length - k) 0 ?_ ?_ ?_
   ·exact Nat.zero_le _
   ·exact eL [] _ _ (by refine ⟨?_, ?_⟩ <;> (repeat' first | exact fmn | refine fmc ⟨(by first | rfl | (simp (disch := omega) only [go_sem, simprocAttr, inL, rowM]; first | done | omega | (congr 1; done))), ?_⟩); done)
   ·intro k hk
    rcases Nat.lt_or_ge k y.length with hlk | hgk
    ·have gy := at0_at hlk
     repeat' first | refine Zad rfl ?_ | refine Zac ?_ | refine wR ?_ | (refine Zaa rfl rfl (fun hc => ?_) (fun hc => ?_) <;> try simp only [hcL] at hc) | (refine Zab _ rfl rfl (fun hc => ?_) (fun hc => ?_) <;> (try simp only [hcL] at hc) <;> try omega) | simp (disch := omega) only [go_sem, simprocAttr, gy] | apply And.intro | omega | decide +kernel
     refine ⟨k + 1, ?_, eL [] _ _ (by refine ⟨?_, ?_⟩ <;> (repeat' first | exact fmn | refine fmc ⟨(by first | rfl | (simp (disch := omega) only [go_sem, simprocAttr, inL, rowM]; first | done | omega | (congr 1; done))), ?_⟩); done), ?_⟩
     ·omega
     ·omega
    ·have : k = y.length := by omega
     subst this
     repeat' first | refine Zad rfl ?_ | refine Zac ?_ | refine wR ?_ | (refine Zaa rfl rfl (fun hc => ?_) (fun hc => ?_) <;> try simp only [hcL] at hc) | (refine Zab _ rfl rfl (fun hc => ?_) (fun hc => ?_) <;> (try simp only [hcL] at hc) <;> try omega) | simp (disch := omega) only [go_sem, simprocAttr] | apply And.intro | omega | decide +kernel
     refine ⟨i + 1, ?_, eL [] _ _ (by refine ⟨?_, ?_⟩ <;> (repeat' first | exact fmn | refine fmc ⟨(by first | rfl | (simp (disch := omega) only [go_sem, simprocAttr, inL, e1, e2]; first | done | omega | (congr 1; done))), ?_⟩); done), ?_⟩
     ·omega
     ·omega
  ·have : i = ls.length := by omega
   subst this
   repeat' first | refine Zad rfl ?_ | refine wR ?_ | (refine Zaa rfl rfl (fun hc => ?_) (fun hc => ?_) <;> try simp only [hcL] at hc) | (refine Zab _ rfl rfl (fun hc => ?_) (fun hc => ?_) <;> (try simp only [hcL] at hc) <;> try omega) | simp (disch := omega) only [go_sem, simprocAttr] | apply And.intro | omega | decide +kernel
   refine eR [(2000, 8), (2001, 9)] [(2, .mp 2000), (3, .mp 2001)] [(2000, .imap (plM ls)), (2001, .imap (lyM ls))] (by refine ⟨?_, ?_⟩ <;> (repeat' first | exact fmn | refine fmc ⟨(by first | rfl | (simp (disch := omega) only [go_sem, simprocAttr, inL]; first | done | omega | (congr 1; done))), ?_⟩); done) ?_
   refine Zac ?_
   exact ⟨⟨_, rfl, rfl, rfl, trivial⟩, List.forall_mem_cons.2 ⟨rfl, List.forall_mem_cons.2 ⟨rfl, List.forall_mem_nil _⟩⟩⟩
end Go.Proofs.YtldbcbclhpcofaaGreat
namespace Go.Proofs.YtldbcbclhpcofaaGreat
open Go Go.PS Go.Proofs
set_option maxRecDepth 100000
attribute [local irreducible] Zax wpG Zah Zai

def Lies (ls : List (List Int)) (v : Int) (r p : Nat) : Prop := ∃ y, ls[r]? = some y ∧ y[p]? = some v
theorem lies_of {ls : List (List Int)} {v : Int} (h : v ∈ ls.flatten) : ∃ r p, Lies ls v r p := by
 obtain ⟨y, hy, hv⟩ := List.mem_flatten.1 h
 obtain ⟨r, hr⟩ := List.getElem?_of_mem hy
 obtain ⟨p, hp⟩ := List.getElem?_of_mem hv
 exact ⟨r, p, y, hr, hp⟩
theorem Lies.mem {ls : List (List Int)} {v : Int} {r p : Nat} (h : Lies ls v r p) : v ∈ ls.flatten := by
 obtain ⟨y, h1, h2⟩ := h
 exact List.mem_flatten.2 ⟨y, List.mem_of_getElem? h1, List.mem_of_getElem? h2⟩
theorem Lies.idx {ls : List (List Int)} (hn : ls.flatten.Nodup) {v : Int} {r p : Nat} {y : List Int} (hy : ls[r]? = some y) (h : y[p]? = some v) : y.idxOf v = p := by
 have hyn := (List.pairwise_flatten.1 hn).1 y (List.mem_of_getElem? hy)
 exact idxOf_at hyn h
theorem Lies.layer {ls : List (List Int)} (hn : ls.flatten.Nodup) {v : Int} {r p r' p' : Nat} (h : Lies ls v r p) (h' : Lies ls v r' p') : r = r' := by
 obtain ⟨y, h1, h2⟩ := h
 obtain ⟨z, h3, h4⟩ := h'
 have e1 := List.getElem?_eq_some_iff.1 h1
 have e2 := List.getElem?_eq_some_iff.1 h3
 have hp := (List.pairwise_flatten.1 hn).2
 rcases Nat.lt_trichotomy r r' with h | h | h
 ·have := List.pairwise_iff_getElem.1 hp r r' e1.1 e2.1 h
  rw [e1.2, e2.2] at this
  exact absurd rfl (this v (List.mem_of_getElem? h2) v (List.mem_of_getElem? h4))
 ·exact h
 ·have := List.pairwise_iff_getElem.1 hp r' r e2.1 e1.1 h
  rw [e1.2, e2.2] at this
  exact absurd rfl (this v (List.mem_of_getElem? h4) v (List.mem_of_getElem? h2))
theorem Lies.ly {ls : List (List Int)} (hn : ls.flatten.Nodup) {v : Int} {r p : Nat} (h : Lies ls v r p) : getM (lyM ls) v = r := by
 obtain ⟨y, h1, h2⟩ := h
 exact (getM_all _ ls hn v ls.length (Nat.le_refl _)).1 r y (List.getElem?_eq_some_iff.1 h1).1 h1 (List.mem_of_getElem? h2)
theorem Lies.pl {ls : List (List Int)} (hn : ls.flatten.Nodup) {v : Int} {r p : Nat} (h : Lies ls v r p) : getM (plM ls) v = p := by
 obtain ⟨y, h1, h2⟩ := h
 rw [plM, (getM_all _ ls hn v ls.length (Nat.le_refl _)).1 r y (List.getElem?_eq_some_iff.1 h1).1 h1 (List.mem_of_getElem? h2), Lies.idx hn h1 h2]
theorem Lies.lay {ls : List (List Int)} (hn : ls.flatten.Nodup) {v : Int} {r p : Nat} (h : Lies ls v r p) : layI ls v = r := by
 have h0 := layI_mem.2 h.mem
 have hd := h
 obtain ⟨y, h1, h2⟩ := h
 rw [layI] at h0 ⊢
 cases hf : ls.findIdx? (fun y => y.any fun x => decide (x = v)) with
 | none => rw [hf] at h0; exact absurd h0 (by decide)
 | some k =>
  have hk := List.findIdx?_eq_some_iff_getElem.1 hf
  obtain ⟨hk1, hk2, _⟩ := hk
  obtain ⟨x, hx, hxv⟩ := List.any_eq_true.1 hk2
  have : x = v := by simpa using hxv
  subst this
  obtain ⟨p', hp'⟩ := List.getElem?_of_mem hx
  have := Lies.layer hn hd (⟨ls[k], List.getElem?_eq_getElem hk1, hp'⟩ : Lies ls x k p')
  rw [this]; rfl
structure Joins (ls : List (List Int)) (x : Arc) (r p q : Nat) : Prop where
 up : Lies ls x.1 r p
 dn : Lies ls x.2 (r + 1) q
theorem Zcc {a : Lv} (h : Zay a = true) : a.2.1.flatten.Nodup := by
 obtain ⟨_, _, hr⟩ := valid_built h
 obtain ⟨_, _, hg, _⟩ := ranks_ok hr
 exact (good_iff.1 hg).2
theorem valid_joins {a : Lv} (h : Zay a = true) {k : Nat} {x : Arc} (hx : a.2.2.1[k]? = some x) : ∃ r p q, Joins a.2.1 x r p q := by
 have hn := Zcc h
 obtain ⟨b, hm, hr⟩ := valid_built h
 obtain ⟨_, _, hg, ho⟩ := ranks_ok hr
 have har : a.2.2.1 = Zcf (Zbu a) (srcG a).2 (srcG a).2.length := congrArg (fun x : Lv => x.2.2.1) hm
 -- an arc of chain e
 have hmem : ∀ m, m ≤ (srcG a).2.length → ∀ x, x ∈ Zcf (Zbu a) (srcG a).2 m → ∃ e c j, (srcG a).2[e]? = some c ∧ j < gapN (Zbu a) c + 1 ∧ x = pairAt (Zaz (Zbu a) (allR (Zbu a) (srcG a).2 e).length c) j := by
  intro m
  induction m with
  | zero => intro _ x hx; simp [Zcf, catN] at hx
  | succ m ih =>
   intro hm x hx
   obtain ⟨c, hc⟩ := Zan (l := (srcG a).2) (k := m) (by omega)
   rw [arcsF_succ hc, List.mem_append] at hx
   rcases hx with hx | hx
   ·exact ih (by omega) x hx
   ·simp only [pairsN, List.mem_map, List.mem_range] at hx
    obtain ⟨j, hj, rfl⟩ := hx
    exact ⟨m, c, j, hc, hj, rfl⟩
 obtain ⟨e, c, j, hc, hj, rfl⟩ := hmem _ (Nat.le_refl _) x (har ▸ List.mem_of_getElem? hx)
 obtain ⟨x1, x2, x3⟩ := b.chain_at hc (j := j) (by omega)
 obtain ⟨y1, y2, y3⟩ := b.chain_at hc (j := j + 1) (by omega)
 rw [pairAt]
 generalize at0 (Zaz (Zbu a) (allR (Zbu a) (srcG a).2 e).length c) j = u at x1 x2 x3 ⊢
 generalize at0 (Zaz (Zbu a) (allR (Zbu a) (srcG a).2 e).length c) ((j + 1 : Nat) : Int) = v at y1 y2 y3 ⊢
 have hlay : ∀ u : Int, 0 ≤ u → u < (allR (Zbu a) (srcG a).2 (srcG a).2.length).length → layI a.2.1 u = at0 (allR (Zbu a) (srcG a).2 (srcG a).2.length) u := by
  intro u h0 h1
  have hl : (allR (Zbu a) (srcG a).2 (srcG a).2.length).length = tot a.2.1 := by rw [ho, rowR_len]
  obtain ⟨n, rfl⟩ : ∃ n : Nat, u = n := ⟨u.toNat, by omega⟩
  have := rowR_get (c := tot a.2.1) (v := n) (by omega) a.2.1
  rw [← ho, at0_at (by omega), Option.some.injEq] at this
  exact this.symm
 have e1 := hlay u x1 x2
 have e2 := hlay v y1 y2
 have hrk := b.rk c.1.toNat
 have hin := b.ends hc
 rw [show ((c.1.toNat : Nat) : Int) = c.1 by omega] at hrk
 obtain ⟨r, p, hl1⟩ := lies_of (layI_mem.1 (show 0 ≤ layI a.2.1 u by omega))
 obtain ⟨r2, q, hl2⟩ := lies_of (layI_mem.1 (show 0 ≤ layI a.2.1 v by omega))
 have e3 := hl1.lay hn
 have e4 := hl2.lay hn
 have : r2 = r + 1 := by omega
 subst this
 exact ⟨r, p, q, hl1, hl2⟩
end Go.Proofs.YtldbcbclhpcofaaGreat
namespace Go.Proofs.YtldbcbclhpcofaaGreat
open Go Go.PS Go.Proofs
set_option maxRecDepth 100000
attribute [local irreducible] Zax wpG Zah Zai

def endsAt (ls : List (List Int)) (i f : Int) (p : Nat) (x : Arc) : List Int :=
 if getM (lyM ls) x.1 = i ∧ getM (lyM ls) x.2 = f then (if getM (plM ls) x.1 = p then [getM (plM ls) x.2] else [])
 else if getM (lyM ls) x.2 = i ∧ getM (lyM ls) x.1 = f then (if getM (plM ls) x.2 = p then [getM (plM ls) x.1] else []) else []
def endsN (ls : List (List Int)) (ar : List Arc) (i f : Int) (k p : Nat) : List Int := (ar.take k).flatMap (endsAt ls i f p)
theorem endsN_succ {ls : List (List Int)} {ar : List Arc} {i f : Int} {k : Nat} {x : Arc} (hx : ar[k]? = some x) (p : Nat) : endsN ls ar i f (k + 1) p = endsN ls ar i f k p ++ endsAt ls i f p x := by
 simp [endsN, Zat hx]
theorem endsAt_len (ls : List (List Int)) (i f : Int) (p : Nat) (x : Arc) : (endsAt ls i f p x).length ≤ 1 := by
 unfold endsAt
 split
 ·split <;> simp
 ·split
  ·split <;> simp
  ·simp
theorem endsN_len (ls : List (List Int)) (ar : List Arc) (i f : Int) (p : Nat) : ∀ k, (endsN ls ar i f k p).length ≤ k
 | 0 => by simp [endsN]
 | k + 1 => by
  have ih := endsN_len ls ar i f p k
  rcases Nat.lt_or_ge k ar.length with h | h
  ·obtain ⟨x, hx⟩ := Zan h
   have := endsAt_len ls i f p x
   rw [endsN_succ hx, List.length_append]; omega
  ·rw [endsN, List.take_of_length_le (by omega)]
   rw [endsN, List.take_of_length_le (by omega)] at ih
   omega
def endsF (ls : List (List Int)) (ar : List Arc) (i f : Int) (n : Nat) : List (List Int) := (List.range n).map (endsN ls ar i f ar.length)
set_option maxHeartbeats 8000000 in
theorem ends_spec (a : Lv) (i : Nat) (f : Int) (y : List Int) (h : Zay a = true) (hy : a.2.1[i]? = some y) : Zah Tryz.prog 54 [lvD a, .int i, .int f] (Zaj (endsF a.2.1 a.2.2.1 i f y.length)) := by
 have hn := Zcc h
 have hj := fun k x hx => valid_joins h (k := k) (x := x) hx
 obtain ⟨s1, s2, s3⟩ := Zcu h
 obtain ⟨t1, t2⟩ := Zcq h
 have hp := places_spec a (by omega) (fun y hy => by have := Zbq hy; omega)
 have hyl := Zbq (List.mem_of_getElem? hy)
 have hil : i < a.2.1.length := (List.getElem?_eq_some_iff.1 hy).1
 obtain ⟨n, ls, ar, cs⟩ := a
 dsimp only at *
 obtain ⟨N, hN⟩ : ∃ N, N = y.length := ⟨_, rfl⟩
 rw [← hN] at hyl ⊢
 refine Zaf Tryz.func54 rfl (by decide +kernel) (Nat.le_of_ble_eq_true rfl) ?_
 intro hat B X w0
 repeat' first | refine Zad rfl ?_ | refine Zac ?_ | refine wR ?_ | refine rcM [(2000, 914), (2001, 915)] (hp) rfl ?_ | (refine Zaa rfl rfl (fun hc => ?_) (fun hc => ?_) <;> try simp only [hcL] at hc) | (refine Zab _ rfl rfl (fun hc => ?_) (fun hc => ?_) <;> (try simp only [hcL] at hc) <;> try omega) | simp (disch := omega) only [go_sem, simprocAttr, hy, ← hN] | apply And.intro | omega | decide +kernel
 refine Zbd _ (ent_famNew 1 23 1 N rfl (fun i hi => by simp (disch := omega) only [go_sem, simprocAttr, obOf_fid, argEnv]) (by decide) (by decide)) ?_
 refine Zaq (κ := Nat) (fun (k : Nat) => k ≤ ar.length) (fun (k : Nat) => [(1, .int i), (2, .int f), (3, .ptr 3 0 0 0), (7, .mp 914), (8, .mp 915), (9, .ref 23 1 0 N N), (25, .d (Zal ar)), (26, .int ar.length), (27, .int k)]) (fun (k : Nat) => [⟨1, 23, 1, N, fun p => (endsN ls ar i f k p).map D.int⟩]) (fun (k : Nat) => [(3, .cells [.int n, .d (Zaj ls), .d (Zal ar), .d (Zaj cs)]), (914, .imap (plM ls)), (915, .imap (lyM ls))]) (fun (k : Nat) => ar.length - k) 0 ?_ ?_ ?_
 ·exact Nat.zero_le _
 ·refine eF [] [] _ _ _ (by refine ⟨?_, ?_⟩ <;> (repeat' first | exact fmn | refine fmc ⟨(by first | rfl | (simp (disch := omega) only [go_sem, simprocAttr, inL]; first | done | omega | (congr 1; done))), ?_⟩); done) ?_
  repeat' first | exact fmn | refine fmc ⟨?_, ?_⟩
  all_goals refine ⟨_, (by first | rfl | (simp (disch := omega) only [go_sem, simprocAttr, endsN, List.take_zero, List.flatMap_nil]; done) | (simp (disch := omega) only [go_sem, simprocAttr, endsN, List.take_zero, List.flatMap_nil]; rfl)), fun i hi => ?_⟩
  all_goals dsimp only at hi ⊢
  all_goals try (exfalso; omega)
  all_goals try (simp (disch := omega) only [go_sem, simprocAttr, endsN, List.take_zero, List.flatMap_nil, Zaw, Zav]; done)
 ·intro k hk
  rcases Nat.lt_or_ge k ar.length with hlt | hge
  ·obtain ⟨x, hx⟩ := Zan hlt
   obtain ⟨r, p, q, hup, hdn⟩ := hj k x hx
   have l1 := hup.ly hn
   have l2 := hdn.ly hn
   have p1 := hup.pl hn
   have p2 := hdn.pl hn
   have hst := endsN_succ (ls := ls) (i := i) (f := f) hx
   by_cases c1 : r = i ∧ ((r + 1 : Nat) : Int) = f
   ·obtain ⟨rfl, c2⟩ := c1
    have hpN : p < N := by
     obtain ⟨z, z1, z2⟩ := hup
     rw [hy] at z1; cases z1
     rw [hN]; exact (List.getElem?_eq_some_iff.1 z2).1
    have he : ∀ p', endsAt ls r f p' x = if p' = p then [(q : Int)] else [] := fun p' => by
     rw [endsAt, l1, l2, p1, p2, if_pos ⟨rfl, c2⟩]
     by_cases c : p' = p
     ·rw [if_pos (by omega), if_pos c]
     ·rw [if_neg (by omega), if_neg c]
    have hel := endsN_len ls ar r f p k
    refine Zbd _ (ent_bor _ _ [3, 914, 915, 23] 23 p 900 1 1 N (by first | rfl | (simp (disch := omega) only [go_sem, simprocAttr]; done) | (simp (disch := omega) only [go_sem, simprocAttr]; rfl)) (by first | (simp (disch := omega) only [go_sem, simprocAttr]; done) | (simp (disch := omega) only [go_sem, simprocAttr]; rfl)) (by first | (simp (disch := omega) only [go_sem, simprocAttr]; done) | (simp (disch := omega) only [go_sem, simprocAttr]; rfl)) (fun i hi hne => by simp (disch := omega) only [go_sem, simprocAttr, hne]; (repeat' split) <;> exact .ref _ _ _ _ _ ⟨by simp (disch := omega) only [go_sem, simprocAttr, hne], by simp (disch := omega) only [go_sem, simprocAttr, hne]⟩) (by (repeat' first | refine ab_nil ?_ | exact ab_obOf (ids := [3, 914, 915, 23]) rfl rfl (Nat.le_of_ble_eq_true rfl) | refine ab_hole ?_ | refine ab_row ?_ | refine ab_dead ?_ | refine ab_self ?_ | refine Zcv ?_ | refine ab_fam (by dsimp only; omega) (by dsimp only; omega) (by omega) (by omega) (Nat.le_of_ble_eq_true rfl) ?_); done) rfl rfl rfl) ?_
    repeat' first | refine Zad rfl ?_ | refine Zac ?_ | refine wR ?_ | (refine Zaa rfl rfl (fun hc => ?_) (fun hc => ?_) <;> try simp only [hcL] at hc) | (refine Zab _ rfl rfl (fun hc => ?_) (fun hc => ?_) <;> (try simp only [hcL] at hc) <;> try omega) | simp (disch := omega) only [go_sem, simprocAttr, hx, l1, l2, p1, p2, c2, Zbb, List.take_length, Zae] | apply And.intro | omega | decide +kernel
    refine ⟨k + 1, ?_, eF [(fid 1 p, 63)] [] _ _ _ (by refine ⟨?_, ?_⟩ <;> (repeat' first | exact fmn | refine fmc ⟨(by first | rfl | (simp (disch := omega) only [go_sem, simprocAttr, inL]; first | done | omega | (congr 1; done))), ?_⟩); done) ?_, ?_⟩
    ·omega
    ·repeat' first | exact fmn | refine fmc ⟨?_, ?_⟩
     all_goals refine ⟨_, (by first | rfl | (simp (disch := omega) only [go_sem, simprocAttr, hst, he, List.map_append, List.length_append, List.length_map, List.length_cons, List.length_nil, List.append_nil, Zae]; done) | (simp (disch := omega) only [go_sem, simprocAttr, hst, he, List.map_append, List.length_append, List.length_map, List.length_cons, List.length_nil, List.append_nil, Zae]; rfl)), fun i hi => ?_⟩
     all_goals dsimp only at hi ⊢
     all_goals rcases Decidable.em (i = p) with rfl | hi0
     all_goals try (exfalso; omega)
     all_goals try (simp (disch := omega) only [go_sem, simprocAttr, hst, he, List.map_append, List.length_append, List.length_map, List.length_cons, List.length_nil, List.append_nil, Zae, Zaw, Zav]; done)
     all_goals try (simp (disch := omega) only [go_sem, simprocAttr, hst, he, List.map_append, List.length_append, List.length_map, List.length_cons, List.length_nil, List.append_nil, Zae, hi0, Zaw, Zav]; done)
    ·omega
   ·by_cases c2 : r + 1 = i ∧ (r : Int) = f
    ·obtain ⟨c2, c3⟩ := c2
     have c4 : ¬ (r : Int) = i := by omega
     have c5 : ((r + 1 : Nat) : Int) = i := by omega
     have hqN : q < N := by
      obtain ⟨z, z1, z2⟩ := hdn
      rw [c2, hy] at z1; cases z1
      rw [hN]; exact (List.getElem?_eq_some_iff.1 z2).1
     have he : ∀ p', endsAt ls i f p' x = if p' = q then [(p : Int)] else [] := fun p' => by
      rw [endsAt, l1, l2, p1, p2, if_neg (fun h => c4 h.1), if_pos ⟨c5, c3⟩]
      by_cases c : p' = q
      ·rw [if_pos (by omega), if_pos c]
      ·rw [if_neg (by omega), if_neg c]
     have hel := endsN_len ls ar i f q k
     refine Zbd _ (ent_bor _ _ [3, 914, 915, 23] 23 q 900 1 1 N (by first | rfl | (simp (disch := omega) only [go_sem, simprocAttr]; done) | (simp (disch := omega) only [go_sem, simprocAttr]; rfl)) (by first | (simp (disch := omega) only [go_sem, simprocAttr]; done) | (simp (disch := omega) only [go_sem, simprocAttr]; rfl)) (by first | (simp (disch := omega) only [go_sem, simprocAttr]; done) | (simp (disch := omega) only [go_sem, simprocAttr]; rfl)) (fun i hi hne => by simp (disch := omega) only [go_sem, simprocAttr, hne]; (repeat' split) <;> exact .ref _ _ _ _ _ ⟨by simp (disch := omega) only [go_sem, simprocAttr, hne], by simp (disch := omega) only [go_sem, simprocAttr, hne]⟩) (by (repeat' first | refine ab_nil ?_ | exact ab_obOf (ids := [3, 914, 915, 23]) rfl rfl (Nat.le_of_ble_eq_true rfl) | refine ab_hole ?_ | refine ab_row ?_ | refine ab_dead ?_ | refine ab_self ?_ | refine Zcv ?_ | refine ab_fam (by dsimp only; omega) (by dsimp only; omega) (by omega) (by omega) (Nat.le_of_ble_eq_true rfl) ?_); done) rfl rfl rfl) ?_
     repeat' first | refine Zad rfl ?_ | refine Zac ?_ | refine wR ?_ | (refine Zaa rfl rfl (fun hc => ?_) (fun hc => ?_) <;> try simp only [hcL] at hc) | (refine Zab _ rfl rfl (fun hc => ?_) (fun hc => ?_) <;> (try simp only [hcL] at hc) <;> try omega) | simp (disch := omega) only [go_sem, simprocAttr, hx, l1, l2, p1, p2, c3, c4, c5, Zbb, List.take_length, Zae] | apply And.intro | omega | decide +kernel
     refine ⟨k + 1, ?_, eF [(fid 1 q, 97)] [] _ _ _ (by refine ⟨?_, ?_⟩ <;> (repeat' first | exact fmn | refine fmc ⟨(by first | rfl | (simp (disch := omega) only [go_sem, simprocAttr, inL]; first | done | omega | (congr 1; done))), ?_⟩); done) ?_, ?_⟩
     ·omega
     ·repeat' first | exact fmn | refine fmc ⟨?_, ?_⟩
      all_goals refine ⟨_, (by first | rfl | (simp (disch := omega) only [go_sem, simprocAttr, hst, he, List.map_append, List.length_append, List.length_map, List.length_cons, List.length_nil, List.append_nil, Zae]; done) | (simp (disch := omega) only [go_sem, simprocAttr, hst, he, List.map_append, List.length_append, List.length_map, List.length_cons, List.length_nil, List.append_nil, Zae]; rfl)), fun i hi => ?_⟩
      all_goals dsimp only at hi ⊢
      all_goals rcases Decidable.em (i = q) with rfl | hi0
      all_goals try (exfalso; omega)
      all_goals try (simp (disch := omega) only [go_sem, simprocAttr, hst, he, List.map_append, List.length_append, List.length_map, List.length_cons, List.length_nil, List.append_nil, Zae, Zaw, Zav]; done)
      all_goals try (simp (disch := omega) only [go_sem, simprocAttr, hst, he, List.map_append, List.length_append, List.length_map, List.length_cons, List.length_nil, List.append_nil, Zae, hi0, Zaw, Zav]; done)
     ·omega
    ·have he : ∀ p', endsAt ls i f p' x = [] := fun p' => by
      rw [endsAt, l1, l2, p1, p2, if_neg (fun h => c1 ⟨by omega, h.2⟩), if_neg (fun h => c2 ⟨by omega, h.2⟩)]
     by_cases d1 : (r : Int) = i <;> by_cases d2 : ((r + 1 : Nat) : Int) = f <;> by_cases d3 : ((r + 1 : Nat) : Int) = i <;> by_cases d4 : (r : Int) = f
     all_goals try (exfalso; omega)
     all_goals
      repeat' first | refine Zad rfl ?_ | refine Zac ?_ | refine wR ?_ | (refine Zaa rfl rfl (fun hc => ?_) (fun hc => ?_) <;> try simp only [hcL] at hc) | (refine Zab _ rfl rfl (fun hc => ?_) (fun hc => ?_) <;> (try simp only [hcL] at hc) <;> try omega) | simp (disch := omega) only [go_sem, simprocAttr, hx, l1, l2, p1, p2, d1, d2, d3, d4] | apply And.intro | omega | decide +kernel
      refine ⟨k + 1, ?_, eF [] [] _ _ _ (by refine ⟨?_, ?_⟩ <;> (repeat' first | exact fmn | refine fmc ⟨(by first | rfl | (simp (disch := omega) only [go_sem, simprocAttr, inL]; first | done | omega | (congr 1; done))), ?_⟩); done) ?_, ?_⟩
      ·omega
      ·repeat' first | exact fmn | refine fmc ⟨?_, ?_⟩
       all_goals refine ⟨_, (by first | rfl | (simp (disch := omega) only [go_sem, simprocAttr, hst, he, List.append_nil]; done) | (simp (disch := omega) only [go_sem, simprocAttr, hst, he, List.append_nil]; rfl)), fun i hi => ?_⟩
       all_goals dsimp only at hi ⊢
       all_goals try (exfalso; omega)
       all_goals try (simp (disch := omega) only [go_sem, simprocAttr, hst, he, List.append_nil, Zaw, Zav]; done)
      ·omega
  ·have : k = ar.length := by omega
   subst this
   try dsimp only
   refine Zbd _ (Zcp _ _ _ _ ⟨Zba rfl, Zba rfl, (by (repeat' first | exact fmn | refine fmc ⟨⟨Nat.le_of_ble_eq_true rfl, Nat.le_of_ble_eq_true rfl, by dsimp only; omega⟩, ?_⟩); done)⟩ rfl [3, 914, 915, 23] rfl rfl rfl rfl) ?_
   repeat' first | refine Zad rfl ?_ | refine Zac ?_ | refine wR ?_ | (refine Zaa rfl rfl (fun hc => ?_) (fun hc => ?_) <;> try simp only [hcL] at hc) | (refine Zab _ rfl rfl (fun hc => ?_) (fun hc => ?_) <;> (try simp only [hcL] at hc) <;> try omega) | simp (disch := omega) only [go_sem, simprocAttr] | apply And.intro | omega | decide +kernel
   refine Zci (o := 23) rfl rfl (by simp) ?_
   rw [List.take_of_length_le (by simp), endsF, List.map_map]
   rfl
end Go.Proofs.YtldbcbclhpcofaaGreat
