/- The reference's Source and Valid: the walks. -/
import Derived.Test.YthbcmebhpabpnaaF
import Derived.Test.YthbcmebhpabpnaaPSBridge
import Derived.Test.YthbcmebhpabpnaaTypes
set_option linter.unusedSimpArgs false
set_option linter.unusedVariables false
namespace Go.Proofs.Ythbcmebhpabpnaa
open Go Go.PS Go.Proofs
set_option maxRecDepth 100000
attribute [local irreducible] wpRun wpG CallsTo CallsM

def sourceOk (a : Lv) (o : List Int) : Bool := decide (0 ≤ a.1 ∧ a.1 ≤ o.length ∧ a.1 ≤ 64 ∧ a.2.2.2.length ≤ 256) && !a.2.2.2.any shortC
def sourceF (a : Lv) : Gr × List Int × Bool := match ranksF a.2.1 with
 | none => ((0, []), [], false)
 | some o => if sourceOk a o then (srcG a, o.take a.1.toNat, true) else ((0, []), [], false)
def rValidF (a : Lv) : Bool := (sourceF a).2.2 && decide ((buildF (sourceF a).1 (sourceF a).2.1).2 = 0) && sameLv (buildF (sourceF a).1 (sourceF a).2.1).1 (sortLv a)
set_option maxHeartbeats 4000000 in
theorem Source_spec (a : Lv) (hw : wide a) : CallsTo Try.prog 42 [lvD a] (.tup [gD (sourceF a).1, intsD (sourceF a).2.1, .bool (sourceF a).2.2]) := by
 have hr := Ranks_spec a hw
 obtain ⟨m, ls, ar, cs⟩ := a
 dsimp only at hr
 have hsf : sourceF (m, ls, ar, cs) = match ranksF ls with
  | none => ((0, []), [], false)
  | some o => if sourceOk (m, ls, ar, cs) o then ((m, cs.map endsA), o.take m.toNat, true) else ((0, []), [], false) := rfl
 rw [hsf]
 rcases hrf : ranksF ls with _ | o
 ·rw [hrf] at hr
  dsimp only [Option.getD_none, Option.isSome_none] at hr
  refine callsTo_of Try.func42 rfl (by decide +kernel) (Nat.le_of_ble_eq_true rfl) ?_
  intro hat B X w0
  repeat' first | refine pw_step rfl ?_ | refine pw_ret ?_ | refine wR ?_ | (refine rc (hr) rfl ?_ ?_; (· first | rfl | simp (disch := omega) only [go_sem, simprocAttr, List.append_eq])) | (refine wpG_split rfl rfl (fun hc => ?_) (fun hc => ?_) <;> try simp only [hcL] at hc) | (refine pw_cond _ rfl rfl (fun hc => ?_) (fun hc => ?_) <;> (try simp only [hcL] at hc) <;> try omega) | simp (disch := omega) only [go_sem, simprocAttr, List.append_eq] | apply And.intro | omega | decide +kernel
  refine ⟨_, rfl, ⟨_, _, _, _, rfl, ?_⟩, rfl, bool_some rfl, trivial⟩
  simp (disch := omega) only [go_sem, simprocAttr, toD]
  rfl
 ·rw [hrf] at hr
  dsimp only [Option.getD_some, Option.isSome_some] at hr
  dsimp only
  have hol : o.length ≤ 512 := by
   rw [ranksF] at hrf
   split at hrf
   ·cases hrf
   ·split at hrf
    ·cases hrf; rw [rowR_len]; omega
    ·cases hrf
  refine callsTo_of Try.func42 rfl (by decide +kernel) (Nat.le_of_ble_eq_true rfl) ?_
  intro hat B X w0
  have h3 := at_len2 0 3 hat rfl rfl
  rw [List.length_map] at h3
  dsimp only at h3
  repeat' first | refine pw_step rfl ?_ | refine pw_ret ?_ | refine wR ?_ | (refine rc (hr) rfl ?_ ?_; (· first | rfl | simp (disch := omega) only [go_sem, simprocAttr, List.append_eq])) | (refine wpG_split rfl rfl (fun hc => ?_) (fun hc => ?_) <;> try simp only [hcL] at hc) | (refine pw_cond _ rfl rfl (fun hc => ?_) (fun hc => ?_) <;> (try simp only [hcL] at hc) <;> try omega) | simp (disch := omega) only [go_sem, simprocAttr, List.append_eq] | apply And.intro | omega | decide +kernel
  all_goals try
   rw [if_neg (by simp [sourceOk]; omega)]
   refine ⟨_, rfl, ⟨_, _, _, _, rfl, ?_⟩, rfl, bool_some rfl, trivial⟩
   simp (disch := omega) only [go_sem, simprocAttr, toD]
   rfl
  obtain ⟨n, rfl⟩ : ∃ n : Nat, m = n := ⟨m.toNat, by omega⟩
  have hn1 : n ≤ o.length := by omega
  have hn2 : n ≤ 64 := by omega
  have hc2 : cs.length ≤ 256 := by omega
  have hso : sourceOk ((n : Int), ls, ar, cs) o = !cs.any shortC := by
   simp only [sourceOk]; rw [decide_eq_true (by omega), Bool.true_and]
  rw [hso]
  refine pw_ent _ (ent_nilC 7 1 901 2 rfl rfl rfl) ?_
  refine pw_loopI (κ := Nat) (fun (k : Nat) => k ≤ cs.length ∧ ∀ (j : Nat) y, j < k → cs[j]? = some y → shortC y = false) (fun (k : Nat) => [(1, .ptr 1 0 0 0), (2, .ptr 2 0 0 0), (5, .d (intsD o)), (7, .ptr 7 0 0 0), (8, .int k)]) (fun (k : Nat) => [(1, .cells [.int n, .d (listsD ls), .d (arcsD ar), .d (listsD cs)]), (2, .cells [.int 0, .nilS]), (7, .cells [.int n, .ref 901 2 0 k k]), (901, .row 2 (((cs.take k).map endsA).map arcD))]) (fun (k : Nat) => cs.length - k) 0 ?_ ?_ ?_
  ·exact ⟨Nat.zero_le _, fun j y h => by omega⟩
  ·exact eL [] _ _ (by refine ⟨?_, ?_⟩ <;> (repeat' first | exact fmn | refine fmc ⟨(by first | rfl | (simp (disch := omega) only [go_sem, simprocAttr, inL, List.take_zero, List.map_nil]; first | done | omega | (congr 1; done))), ?_⟩); done)
  ·rintro k ⟨hk, hinv⟩
   rcases Nat.lt_or_ge k cs.length with hlt | hge
   ·obtain ⟨c, hc0⟩ := get_some hlt
    by_cases hsc : c.length < 2
    ·have : cs.any shortC = true := any_at hc0 (by simpa [shortC] using hsc)
     rw [this]
     repeat' first | refine pw_step rfl ?_ | refine pw_ret ?_ | refine wR ?_ | (refine wpG_split rfl rfl (fun hc => ?_) (fun hc => ?_) <;> try simp only [hcL] at hc) | (refine pw_cond _ rfl rfl (fun hc => ?_) (fun hc => ?_) <;> (try simp only [hcL] at hc) <;> try omega) | simp (disch := omega) only [go_sem, simprocAttr, hc0] | apply And.intro | omega | decide +kernel
     refine ⟨_, rfl, ⟨_, _, _, _, rfl, ?_⟩, rfl, bool_some rfl, trivial⟩
     simp (disch := omega) only [go_sem, simprocAttr, toD]
     rfl
    ·have hcl : c.length ≤ 9223372036854775807 := by have := at_elem (m := c.map D.int) (k := k) 0 3 hat rfl rfl (by rw [List.getElem?_map, hc0]; rfl); rwa [List.length_map] at this
     have e1 := at0_at (r := c) (i := 0) (by omega)
     have e2 := at0_get (r := c) (v := (c.length : Int) - 1) (by omega) (by omega)
     have hts := take_snoc hc0
     have hlk : (((cs.take k).map endsA).map arcD).length = k := by rw [List.length_map, List.length_map, List.length_take]; omega
     have htk : List.take k (((cs.take k).map endsA).map arcD) = ((cs.take k).map endsA).map arcD := List.take_of_length_le (by rw [hlk]; exact Nat.le_refl _)
     repeat' first | refine pw_step rfl ?_ | refine pw_ret ?_ | refine wR ?_ | (refine wpG_split rfl rfl (fun hc => ?_) (fun hc => ?_) <;> try simp only [hcL] at hc) | (refine pw_cond _ rfl rfl (fun hc => ?_) (fun hc => ?_) <;> (try simp only [hcL] at hc) <;> try omega) | simp (disch := omega) only [go_sem, simprocAttr, hc0, e1, e2, roomy, hlk] | apply And.intro | omega | decide +kernel
     refine ⟨k + 1, ?_, eL [(901, 73)] _ _ (by refine ⟨?_, ?_⟩ <;> (repeat' first | exact fmn | refine fmc ⟨(by first | rfl | (simp (disch := omega) only [go_sem, simprocAttr, inL, hts, List.map_append, htk]; first | done | omega | (congr 1; done))), ?_⟩); done), ?_⟩
     ·exact ⟨by omega, upto_succ hinv hc0 (by simpa [shortC] using hsc)⟩
     ·omega
   ·have : k = cs.length := by omega
    subst this
    have hsc : cs.any shortC = false := any_no fun j y hj => hinv j y hj
    try dsimp only
    rw [List.take_length, hsc, if_pos (by decide)]
    have hlA : ((cs.map endsA).map arcD).length = cs.length := by simp
    repeat' first | refine pw_step rfl ?_ | refine pw_ret ?_ | refine wR ?_ | (refine wpG_split rfl rfl (fun hc => ?_) (fun hc => ?_) <;> try simp only [hcL] at hc) | (refine pw_cond _ rfl rfl (fun hc => ?_) (fun hc => ?_) <;> (try simp only [hcL] at hc) <;> try omega) | simp (disch := omega) only [go_sem, simprocAttr] | exact one_int o | apply And.intro | omega | decide +kernel
    refine ⟨_, rfl, ⟨_, _, _, _, rfl, ?_⟩, ?_, bool_some rfl, trivial⟩
    ·simp (disch := omega) only [go_sem, simprocAttr, toD, hlA, Nat.le_refl, List.drop_zero]
     rw [List.take_of_length_le (by rw [hlA]; exact Nat.le_refl _)]
    ·exact sl_some (by rw [List.map_take])
theorem rTot {a : Lv} (h : (sourceF a).2.2 = true) : a.2.1.length ≤ 256 ∧ tot a.2.1 ≤ 512 := by
 rw [sourceF] at h
 split at h
 ·cases h
 ·rename_i o ho
  rw [ranksF] at ho
  split at ho
  ·cases ho
  ·omega
set_option maxHeartbeats 4000000 in
theorem rLvValid_spec (a : Lv) (hw : wide a) : CallsTo Try.prog 32 [lvD a] (.bool (rValidF a)) := by
 have hs := Source_spec a hw
 have hb := rBuild_spec (sourceF a).1 (sourceF a).2.1
 have hm := rSame_spec (buildF (sourceF a).1 (sourceF a).2.1).1 (sortLv a)
 rcases h1 : (sourceF a).2.2 with _ | _
 ·rw [h1] at hs
  rw [rValidF, h1]
  refine callsTo_of Try.func32 rfl (by decide +kernel) (Nat.le_of_ble_eq_true rfl) ?_
  intro hat B X w0
  repeat' first | refine pw_step rfl ?_ | refine pw_ret ?_ | refine wR ?_ | (refine rc (hs) rfl ?_ ?_; (· first | rfl | simp (disch := omega) only [go_sem, simprocAttr, List.append_eq])) | (refine wpG_split rfl rfl (fun hc => ?_) (fun hc => ?_) <;> try simp only [hcL] at hc) | (refine pw_cond _ rfl rfl (fun hc => ?_) (fun hc => ?_) <;> (try simp only [hcL] at hc) <;> try omega) | simp (disch := omega) only [go_sem, simprocAttr, List.append_eq] | apply And.intro | omega | decide +kernel
  exact bool_some rfl
 ·rw [h1] at hs
  rw [rValidF, h1]
  obtain ⟨t1, t2⟩ := rTot h1
  have hp := plain_spec a (by omega) (fun y hy => by have := tot_mem hy; omega)
  generalize sourceF a = S at *
  generalize buildF S.1 S.2.1 = BF at *
  obtain ⟨b, e⟩ := BF
  dsimp only at hb hm ⊢
  by_cases he : e = 0
  ·subst he
   rcases hsv : sameLv b (sortLv a) with _ | _ <;> rw [hsv] at hm
   all_goals
    refine callsTo_of Try.func32 rfl (by decide +kernel) (Nat.le_of_ble_eq_true rfl) ?_
    intro hat B X w0
    repeat' first | refine pw_step rfl ?_ | refine pw_ret ?_ | refine wR ?_ | (refine rc (hs) rfl ?_ ?_; (· first | rfl | simp (disch := omega) only [go_sem, simprocAttr, List.append_eq])) | (refine rc (hb) rfl ?_ ?_; (· first | rfl | simp (disch := omega) only [go_sem, simprocAttr, List.append_eq])) | (refine rc (hp) rfl ?_ ?_; (· first | rfl | simp (disch := omega) only [go_sem, simprocAttr, List.append_eq])) | (refine rc (hm) rfl ?_ ?_; (· first | rfl | simp (disch := omega) only [go_sem, simprocAttr, List.append_eq])) | (refine wpG_split rfl rfl (fun hc => ?_) (fun hc => ?_) <;> try simp only [hcL] at hc) | (refine pw_cond _ rfl rfl (fun hc => ?_) (fun hc => ?_) <;> (try simp only [hcL] at hc) <;> try omega) | simp (disch := omega) only [go_sem, simprocAttr, List.append_eq] | apply And.intro | omega | decide +kernel
    exact bool_some rfl
  ·refine callsTo_of Try.func32 rfl (by decide +kernel) (Nat.le_of_ble_eq_true rfl) ?_
   intro hat B X w0
   repeat' first | refine pw_step rfl ?_ | refine pw_ret ?_ | refine wR ?_ | (refine rc (hs) rfl ?_ ?_; (· first | rfl | simp (disch := omega) only [go_sem, simprocAttr, List.append_eq, he])) | (refine rc (hb) rfl ?_ ?_; (· first | rfl | simp (disch := omega) only [go_sem, simprocAttr, List.append_eq, he])) | (refine rc (hp) rfl ?_ ?_; (· first | rfl | simp (disch := omega) only [go_sem, simprocAttr, List.append_eq, he])) | (refine rc (hm) rfl ?_ ?_; (· first | rfl | simp (disch := omega) only [go_sem, simprocAttr, List.append_eq, he])) | (refine wpG_split rfl rfl (fun hc => ?_) (fun hc => ?_) <;> try simp only [hcL] at hc) | (refine pw_cond _ rfl rfl (fun hc => ?_) (fun hc => ?_) <;> (try simp only [hcL] at hc) <;> try omega) | simp (disch := omega) only [go_sem, simprocAttr, List.append_eq, he] | apply And.intro | omega | decide +kernel
   refine bool_some ?_
   simp [he]
end Go.Proofs.Ythbcmebhpabpnaa
namespace Go.Proofs.Ythbcmebhpabpnaa
open Go Go.PS Go.Proofs

theorem nodup_le : ∀ {l m : List Int}, l.Nodup → (∀ x, x ∈ l → x ∈ m) → l.length ≤ m.length
 | [], m, _, _ => Nat.zero_le _
 | x :: l, m, hn, hs => by
  have hx : x ∈ m := hs x (by simp)
  have h1 := List.length_erase_of_mem hx
  have h2 : 0 < m.length := List.length_pos_of_mem hx
  have hn2 := List.nodup_cons.1 hn
  have := nodup_le (l := l) (m := m.erase x) hn2.2 (fun y hy => by
   have hne : y ≠ x := fun e => hn2.1 (e ▸ hy)
   exact (List.mem_erase_of_ne hne).2 (hs y (List.mem_cons_of_mem _ hy)))
  simp only [List.length_cons]; omega
def below (c : Nat) : List Int := (List.range c).map fun n : Nat => (n : Int)
theorem below_len (c : Nat) : (below c).length = c := by simp [below]
theorem below_mem {c : Nat} {v : Int} : v ∈ below c ↔ 0 ≤ v ∧ v < c := by
 simp only [below, List.mem_map, List.mem_range]
 constructor
 ·rintro ⟨n, h, rfl⟩; omega
 ·intro h; exact ⟨v.toNat, by omega, by omega⟩
theorem below_nodup (c : Nat) : (below c).Nodup := by
 refine List.Pairwise.map _ ?_ (List.nodup_range (n := c))
 intro a b h; omega
theorem nodup_all {c : Nat} {l : List Int} (hn : l.Nodup) (hb : ∀ v, v ∈ l → 0 ≤ v ∧ v < c) (hl : l.length = c) (v : Int) (h0 : 0 ≤ v) (h1 : v < c) : v ∈ l := by
 by_cases h : v ∈ l
 ·exact h
 ·have := nodup_le (l := v :: l) (m := below c) (List.nodup_cons.2 ⟨h, hn⟩) (fun x hx => by
   rcases List.mem_cons.1 hx with rfl | hx
   ·exact below_mem.2 ⟨h0, h1⟩
   ·exact below_mem.2 (hb x hx))
  rw [below_len, List.length_cons] at this
  omega
theorem layerOf_mem {A : List Int} {k : Nat} {v : Int} : v ∈ layerOf A k ↔ 0 ≤ v ∧ A[v.toNat]? = some (k : Int) := by
 simp only [layerOf, List.mem_map, List.mem_filter, List.mem_range, decide_eq_true_eq]
 constructor
 ·rintro ⟨n, ⟨h1, h2⟩, rfl⟩
  exact ⟨by omega, by rw [Int.toNat_natCast]; exact h2⟩
 ·rintro ⟨h1, h2⟩
  exact ⟨v.toNat, ⟨(List.getElem?_eq_some_iff.1 h2).1, h2⟩, by omega⟩
theorem layerOf_sorted (A : List Int) (k : Nat) : (layerOf A k).Pairwise (· < ·) := by
 refine List.Pairwise.map (R := (· < ·)) _ ?_ ((List.pairwise_lt_range (n := A.length)).filter _)
 intro a b h; omega
theorem layersN_get {A : List Int} {M k : Nat} (h : k < M) : (layersN A M)[k]? = some (layerOf A k) := by simp [layersN, h]
section layers
variable {A : List Int} {M : Nat}
theorem layers_flat (hA : ∀ n : Nat, n < A.length → 0 ≤ at0 A n ∧ at0 A n < M) {v : Int} : v ∈ (layersN A M).flatten ↔ 0 ≤ v ∧ v < A.length := by
 simp only [layersN, List.mem_flatten, List.mem_map, List.mem_range]
 constructor
 ·rintro ⟨y, ⟨k, hk, rfl⟩, hv⟩
  obtain ⟨h1, h2⟩ := layerOf_mem.1 hv
  have := (List.getElem?_eq_some_iff.1 h2).1
  omega
 ·rintro ⟨h1, h2⟩
  have h3 := hA v.toNat (by omega)
  refine ⟨_, ⟨(at0 A v.toNat).toNat, by omega, rfl⟩, layerOf_mem.2 ⟨h1, ?_⟩⟩
  rw [at0_at (by omega)]
  congr 1; omega
theorem layers_nodup : (layersN A M).flatten.Nodup := by
 refine List.pairwise_flatten.2 ⟨fun y hy => ?_, ?_⟩
 ·obtain ⟨k, _, rfl⟩ := List.mem_map.1 hy
  exact (layerOf_sorted A k).imp (fun h => by omega)
 ·refine List.Pairwise.map _ ?_ (List.pairwise_lt_range (n := M))
  intro a b h x hx y hy e
  subst e
  have h1 := (layerOf_mem.1 hx).2
  rw [(layerOf_mem.1 hy).2, Option.some.injEq] at h1
  omega
theorem layers_tot (hA : ∀ n : Nat, n < A.length → 0 ≤ at0 A n ∧ at0 A n < M) : tot (layersN A M) = A.length := by
 rw [← tot_flat]
 have h1 := nodup_le (l := (layersN A M).flatten) (m := below A.length) layers_nodup (fun x hx => below_mem.2 ((layers_flat hA).1 hx))
 have h2 := nodup_le (l := below A.length) (m := (layersN A M).flatten) (below_nodup _) (fun x hx => (layers_flat hA).2 (below_mem.1 hx))
 rw [below_len] at h1 h2
 omega
theorem layers_lay (hA : ∀ n : Nat, n < A.length → 0 ≤ at0 A n ∧ at0 A n < M) {n : Nat} (h : n < A.length) : layI (layersN A M) n = at0 A n := by
 have h3 := hA n h
 have hk : (layersN A M)[(at0 A n).toNat]? = some (layerOf A (at0 A n).toNat) := layersN_get (by omega)
 have hm : ((n : Nat) : Int) ∈ layerOf A (at0 A n).toNat := layerOf_mem.2 ⟨by omega, by rw [Int.toNat_natCast, at0_at h]; congr 1; omega⟩
 rw [layI, findIdx_at hk (List.any_eq_true.2 ⟨_, hm, by simp⟩)]
 ·show (((at0 A n).toNat : Nat) : Int) = _; omega
 ·intro j y hj hy
  rw [layersN_get (by omega)] at hy
  cases hy
  rw [List.any_eq_false]
  intro x hx hxn
  have : x = n := by simpa using hxn
  subst this
  have h4 := (layerOf_mem.1 hx).2
  rw [Int.toNat_natCast, at0_at h, Option.some.injEq] at h4
  omega
theorem layers_good (hA : ∀ n : Nat, n < A.length → 0 ≤ at0 A n ∧ at0 A n < M) : good A.length (layersN A M) = true := by
 rw [good_iff]
 exact ⟨fun v hv => (layers_flat hA).1 hv, layers_nodup⟩
theorem layers_row (hA : ∀ n : Nat, n < A.length → 0 ≤ at0 A n ∧ at0 A n < M) : rowR A.length (layersN A M) = A := by
 refine List.ext_getElem? fun u => ?_
 by_cases hu : u < A.length
 ·rw [rowR_get hu, layers_lay hA hu, at0_at hu]
 ·rw [List.getElem?_eq_none (by rw [rowR_len]; omega), List.getElem?_eq_none (by omega)]
end layers
theorem sort_flat (ls : List (List Int)) : (ls.map sortL).flatten.Perm ls.flatten := by
 induction ls with
 | nil => exact .refl _
 | cons y ls ih => simp only [List.map_cons, List.flatten_cons]; exact (sortL_perm y).append ih
theorem sort_tot (ls : List (List Int)) : tot (ls.map sortL) = tot ls := by
 rw [← tot_flat, ← tot_flat]; exact (sort_flat ls).length_eq
theorem sort_lay (ls : List (List Int)) (v : Int) : layI (ls.map sortL) v = layI ls v := by
 rw [layI, layI, List.findIdx?_map]
 congr 2
 funext y
 show (sortL y).any _ = y.any _
 rw [Bool.eq_iff_iff, List.any_eq_true, List.any_eq_true]
 constructor
 ·rintro ⟨x, h1, h2⟩; exact ⟨x, (sortL_perm y).mem_iff.1 h1, h2⟩
 ·rintro ⟨x, h1, h2⟩; exact ⟨x, (sortL_perm y).mem_iff.2 h1, h2⟩
theorem sort_good (c : Nat) (ls : List (List Int)) : good c (ls.map sortL) = good c ls := by
 rw [Bool.eq_iff_iff, good_iff, good_iff, (sort_flat ls).nodup_iff]
 constructor
 ·rintro ⟨h1, h2⟩; exact ⟨fun v hv => h1 v ((sort_flat ls).mem_iff.2 hv), h2⟩
 ·rintro ⟨h1, h2⟩; exact ⟨fun v hv => h1 v ((sort_flat ls).mem_iff.1 hv), h2⟩
theorem sort_row (c : Nat) (ls : List (List Int)) : rowR c (ls.map sortL) = rowR c ls := by simp only [rowR, sort_lay]
theorem sort_ranks (ls : List (List Int)) : ranksF (ls.map sortL) = ranksF ls := by
 rw [ranksF, ranksF, List.length_map, sort_tot, sort_good, sort_row]
def highN (g : Gr) (r : List Int) : Nat := if g.1 = 0 then 0 else (maxN r (r.length - 1) + 1).toNat
structure Built (g : Gr) (r : List Int) : Prop where
 eq : buildF g r = (madeF g r, 0)
 gok : gOk g = true
 len : (r.length : Int) = g.1
 rk : ∀ v : Nat, 0 ≤ at0 r v ∧ at0 r v ≤ 255
 loop : ∀ a, a ∈ g.2 → a.1 ≠ a.2
 gap : ∀ (k : Nat) a, g.2[k]? = some a → 0 ≤ at0 r a.2 - at0 r a.1 - 1
 big : g.1 + sumG r g.2 g.2.length ≤ 512
theorem built {g : Gr} {r : List Int} (h : (buildF g r).2 = 0) : Built g r := by
 rw [buildF] at h
 split at h
 ·cases h
 ·rename_i h1
  have h1 : ranksOk g r = true := by simpa using h1
  obtain ⟨g1, g2, g3, g4⟩ := ranksOk_in h1
  split at h
  ·cases h
  ·rename_i h2
   split at h
   ·cases h
   ·rename_i h3
    split at h
    ·cases h
    ·rename_i h4
     refine ⟨?_, g1, g2, g4, fun a ha => ?_, fun k a ha => ?_, by omega⟩
     ·rw [buildF, h1, if_neg (by decide), if_neg h2, if_neg h3, if_neg h4]
     ·have := List.any_eq_false.1 (Bool.eq_false_iff.2 h2) a ha
      simpa [loopF] using this
     ·have := List.any_eq_false.1 (Bool.eq_false_iff.2 h3) a (List.mem_of_getElem? ha)
      rw [upward, decide_eq_true_eq] at this; omega
theorem made_layers (g : Gr) (r : List Int) : (madeF g r).2.1 = layersN (allR r g.2 g.2.length) (highN g r) := by
 rw [madeF, highN]
 split
 ·rfl
 ·rfl
theorem at0_mem {l : List Int} {P : Int → Prop} (h : ∀ x, x ∈ l → P x) (n : Nat) (hn : n < l.length) : P (at0 l n) := h _ (List.mem_of_getElem? (at0_at hn))
namespace Built
variable {g : Gr} {r : List Int}
theorem ends (b : Built g r) {k : Nat} {a : Arc} (h : g.2[k]? = some a) : 0 ≤ a.1 ∧ a.1 < g.1 ∧ 0 ≤ a.2 ∧ a.2 < g.1 := (gOk_in b.gok).2.2.2 k a h
theorem high (b : Built g r) (hp : 0 < r.length) : (highN g r : Int) = maxN r (r.length - 1) + 1 := by
 have h1 := maxN_ge r (r.length - 1) 0 (by omega)
 have h2 := b.rk 0
 have h3 := b.len
 rw [highN, if_neg (by omega)]; omega
theorem high_le (b : Built g r) : highN g r ≤ 256 := by
 have h2 := maxN_le (fun j => (b.rk j).2) (r.length - 1)
 rw [highN]
 split <;> omega
theorem rk_lt (b : Built g r) {n : Nat} (h : n < r.length) : at0 r n < highN g r := by
 have := maxN_ge r (r.length - 1) n (by omega)
 rw [b.high (by omega)]; omega
theorem vals (b : Built g r) : ∀ n : Nat, n < (allR r g.2 g.2.length).length → 0 ≤ at0 (allR r g.2 g.2.length) n ∧ at0 (allR r g.2 g.2.length) n < highN g r := by
 refine fun n hn => at0_mem (P := fun x => 0 ≤ x ∧ x < highN g r) ?_ n hn
 intro x hx
 rw [allR, List.take_length, List.mem_append] at hx
 rcases hx with hx | hx
 ·obtain ⟨k, hk⟩ := List.getElem?_of_mem hx
  have hkl := (List.getElem?_eq_some_iff.1 hk).1
  rw [at0_at hkl] at hk
  cases hk
  exact ⟨(b.rk k).1, b.rk_lt hkl⟩
 ·obtain ⟨a, ha, hx⟩ := List.mem_flatMap.1 hx
  obtain ⟨k, hk⟩ := List.getElem?_of_mem ha
  have he := b.ends hk
  have hg := b.gap k a hk
  have hl := b.len
  have h1 := b.rk a.1.toNat
  have h2 := b.rk_lt (n := a.2.toNat) (by omega)
  rw [show ((a.1.toNat : Nat) : Int) = a.1 by omega] at h1
  rw [show ((a.2.toNat : Nat) : Int) = a.2 by omega] at h2
  simp only [news, List.mem_map, List.mem_range] at hx
  obtain ⟨j, hj, rfl⟩ := hx
  rw [gapN] at hj
  omega
theorem all_len (b : Built g r) : (allR r g.2 g.2.length).length ≤ 512 := by
 have h1 := allR_le b.gap g.2.length (Nat.le_refl _)
 have h2 := b.len
 have h3 := b.big
 omega
theorem all_ge (b : Built g r) : r.length ≤ (allR r g.2 g.2.length).length := by simp [allR]
theorem all_take (b : Built g r) : (allR r g.2 g.2.length).take r.length = r := by simp [allR]
theorem ranks (b : Built g r) : ranksF (madeF g r).2.1 = some (allR r g.2 g.2.length) := by
 have hv := b.vals
 have hl := b.all_len
 rw [made_layers, ranksF, layersN_len, layers_tot hv, if_neg (by have := b.high_le; omega), layers_good hv, if_pos rfl, layers_row hv]
end Built
theorem valid_head {a : Lv} (h : validF a = true) : headOk a = true ∧ a.2.2.2.any shortC = false ∧ foundOk a = true ∧ (buildF (srcG a) (ranksV a)).2 = 0 ∧ sortLv a = (buildF (srcG a) (ranksV a)).1 := by
 simp only [validF, Bool.and_eq_true, Bool.not_eq_true', decide_eq_true_eq, sameLv_iff] at h
 obtain ⟨⟨⟨⟨h1, h2⟩, h3⟩, h4⟩, h5⟩ := h
 exact ⟨h1, h2, h3, h4, h5⟩
theorem valid_built {a : Lv} (h : validF a = true) : Built (srcG a) (ranksV a) ∧ sortLv a = madeF (srcG a) (ranksV a) ∧ ranksF a.2.1 = some (allR (ranksV a) (srcG a).2 (srcG a).2.length) := by
 obtain ⟨h1, h2, h3, h4, h5⟩ := valid_head h
 have b := built h4
 rw [b.eq] at h5
 refine ⟨b, h5, ?_⟩
 rw [← sort_ranks]
 have : a.2.1.map sortL = (madeF (srcG a) (ranksV a)).2.1 := congrArg (fun x : Lv => x.2.1) h5
 rw [this, b.ranks]
theorem valid_source {a : Lv} (h : validF a = true) : sourceF a = (srcG a, ranksV a, true) := by
 obtain ⟨h1, h2, h3, h4, h5⟩ := valid_head h
 obtain ⟨b, hm, hr⟩ := valid_built h
 simp only [headOk, decide_eq_true_eq] at h1
 have hl := b.len
 have hge := b.all_ge
 have e1 : (srcG a).1 = a.1 := rfl
 rw [sourceF, hr]
 dsimp only
 rw [if_pos]
 ·have := b.all_take
  rw [show a.1.toNat = (ranksV a).length by omega, this]
 ·simp only [sourceOk, Bool.and_eq_true, decide_eq_true_eq, h2, Bool.not_false, and_true]
  omega
theorem source_ok {a : Lv} (h : (sourceF a).2.2 = true) : ∃ o, ranksF a.2.1 = some o ∧ sourceOk a o = true ∧ sourceF a = (srcG a, o.take a.1.toNat, true) := by
 rw [sourceF] at h ⊢
 split at h
 ·cases h
 ·rename_i o ho
  split at h
  ·rename_i hs
   refine ⟨o, ho, hs, ?_⟩
   rw [if_pos hs]
  ·cases h
theorem ranks_ok {ls : List (List Int)} {o : List Int} (h : ranksF ls = some o) : ls.length ≤ 256 ∧ tot ls ≤ 512 ∧ good (tot ls) ls = true ∧ o = rowR (tot ls) ls := by
 rw [ranksF] at h
 split at h
 ·cases h
 ·split at h
  ·cases h; exact ⟨by omega, by omega, by assumption, rfl⟩
  ·cases h
theorem good_all {ls : List (List Int)} (h : good (tot ls) ls = true) {v : Int} (h0 : 0 ≤ v) (h1 : v < tot ls) : 0 ≤ layI ls v := by
 rw [good_iff] at h
 exact layI_mem.2 (nodup_all h.2 h.1 (tot_flat ls) v h0 h1)
theorem valid_same (a : Lv) : validF a = rValidF a := by
 rw [Bool.eq_iff_iff]
 constructor
 ·intro h
  have hs := valid_source h
  obtain ⟨h1, h2, h3, h4, h5⟩ := valid_head h
  rw [rValidF, hs]
  simp only [h4, h5, Bool.true_and, sameLv_iff, decide_true, and_self]
 ·intro h
  simp only [rValidF, Bool.and_eq_true, decide_eq_true_eq, sameLv_iff] at h
  obtain ⟨⟨h1, h2⟩, h3⟩ := h
  obtain ⟨o, ho, hso, hsf⟩ := source_ok h1
  obtain ⟨t1, t2, t3, rfl⟩ := ranks_ok ho
  simp only [sourceOk, Bool.and_eq_true, decide_eq_true_eq, Bool.not_eq_true', rowR_len] at hso
  obtain ⟨⟨s1, s2, s3, s4⟩, s5⟩ := hso
  have hrv : (rowR (tot a.2.1) a.2.1).take a.1.toNat = ranksV a := by
   rw [rowR, ← List.map_take, List.take_range, Nat.min_eq_left (by omega), ranksV]
  rw [hsf, hrv] at h2 h3
  dsimp only at h2 h3
  have hfo : foundOk a = true := by
   rw [foundOk, Bool.not_eq_true', List.any_eq_false]
   intro v hv
   have := good_all t3 (v := v) (by omega) (by have := List.mem_range.1 hv; omega)
   simp only [lostV, decide_eq_true_eq]; omega
  simp only [validF, headOk, s5, hfo, h2, h3, sameLv_iff, Bool.and_eq_true, decide_eq_true_eq, Bool.not_false, and_true, decide_true]
  omega
end Go.Proofs.Ythbcmebhpabpnaa
namespace Go.Proofs.Ythbcmebhpabpnaa
open Go Go.PS Go.Proofs
set_option maxRecDepth 100000
attribute [local irreducible] wpRun wpG CallsTo CallsM

theorem at0_left {l m : List Int} {n : Nat} (h : n < l.length) : at0 (l ++ m) n = at0 l n := by
 rw [at0, at0, Int.toNat_natCast, List.getElem?_append_left h]
theorem allR_pre (r : List Int) (l : List Arc) {e m : Nat} (h : e ≤ m) : ∃ x, allR r l m = allR r l e ++ x := by
 refine ⟨((l.drop e).take (m - e)).flatMap fun a => news r a (gapN r a), ?_⟩
 rw [allR, allR, List.append_assoc, ← List.flatMap_append]
 congr 2
 obtain ⟨k, rfl⟩ : ∃ k, m = e + k := ⟨m - e, by omega⟩
 rw [List.take_add, Nat.add_sub_cancel_left]
theorem chainOf_first (r : List Int) (n0 : Nat) (a : Arc) : at0 (chainOf r n0 a) ((0 : Nat) : Int) = a.1 := rfl
theorem chainOf_mid {r : List Int} {n0 : Nat} {a : Arc} {j : Nat} (h : j < gapN r a) : at0 (chainOf r n0 a) ((j + 1 : Nat) : Int) = ((n0 + j : Nat) : Int) := by
 rw [chainOf, at0_left (by rw [chainUp_len]; omega), at0, Int.toNat_natCast, chainUp, List.getElem?_cons_succ]
 simp [h]
theorem chainOf_last (r : List Int) (n0 : Nat) (a : Arc) : at0 (chainOf r n0 a) ((gapN r a + 1 : Nat) : Int) = a.2 := by
 rw [at0, Int.toNat_natCast, chainOf, List.getElem?_append_right (by rw [chainUp_len]; exact Nat.le_refl _), chainUp_len, Nat.sub_self]; rfl
namespace Built
variable {g : Gr} {r : List Int}
theorem chain_at (b : Built g r) {e j : Nat} {a : Arc} (ha : g.2[e]? = some a) (hj : j ≤ gapN r a + 1) :
  0 ≤ at0 (chainOf r (allR r g.2 e).length a) j ∧ at0 (chainOf r (allR r g.2 e).length a) j < (allR r g.2 g.2.length).length ∧ at0 (allR r g.2 g.2.length) (at0 (chainOf r (allR r g.2 e).length a) j) = at0 r a.1 + j := by
 have hel := (List.getElem?_eq_some_iff.1 ha).1
 have he := b.ends ha
 have hg := b.gap e a ha
 have hl := b.len
 have hge := b.all_ge
 obtain ⟨x, hx⟩ := allR_pre r g.2 (show 0 ≤ g.2.length by omega)
 have h0 : allR r g.2 0 = r := by simp [allR]
 rw [h0] at hx
 have hpre : ∀ v : Int, 0 ≤ v → v < g.1 → at0 (allR r g.2 g.2.length) v = at0 r v := fun v h1 h2 => by
  obtain ⟨n, rfl⟩ : ∃ n : Nat, v = n := ⟨v.toNat, by omega⟩
  rw [hx, at0_left (by omega)]
 rcases Nat.eq_zero_or_pos j with rfl | h1
 ·rw [chainOf_first, hpre _ he.1 he.2.1]
  omega
 ·obtain ⟨j, rfl⟩ : ∃ i, j = i + 1 := ⟨j - 1, by omega⟩
  rcases Nat.lt_or_ge j (gapN r a) with h2 | h2
  ·rw [chainOf_mid h2]
   obtain ⟨y, hy⟩ := allR_pre r g.2 (show e + 1 ≤ g.2.length by omega)
   rw [allR_succ ha] at hy
   have hlen := congrArg List.length hy
   simp only [List.length_append, news_len] at hlen
   refine ⟨by omega, by omega, ?_⟩
   rw [hy, at0_left (by rw [List.length_append, news_len]; omega), at0, Int.toNat_natCast, List.getElem?_append_right (by omega), Nat.add_sub_cancel_left]
   simp only [news, List.getElem?_map, List.getElem?_range h2, Option.map_some, Option.getD_some]
   omega
  ·have hj2 : j = gapN r a := by omega
   subst hj2
   rw [chainOf_last, hpre _ he.2.2.1 he.2.2.2]
   have hgn : (gapN r a : Int) = at0 r a.2 - at0 r a.1 - 1 := by rw [gapN]; omega
   omega
end Built
end Go.Proofs.Ythbcmebhpabpnaa
namespace Go.Proofs.Ythbcmebhpabpnaa
open Go Go.PS Go.Proofs
set_option maxRecDepth 100000
attribute [local irreducible] wpRun wpG CallsTo CallsM

end Go.Proofs.Ythbcmebhpabpnaa
namespace Go.Proofs.Ythbcmebhpabpnaa
open Go Go.PS Go.Proofs
set_option maxRecDepth 100000
attribute [local irreducible] wpRun wpG CallsTo CallsM

end Go.Proofs.Ythbcmebhpabpnaa
namespace Go.Proofs.Ythbcmebhpabpnaa
open Go Go.PS Go.Proofs
set_option maxRecDepth 100000
attribute [local irreducible] wpRun wpG CallsTo CallsM

end Go.Proofs.Ythbcmebhpabpnaa
namespace Go.Proofs.Ythbcmebhpabpnaa
open Go Go.PS Go.Proofs
set_option maxRecDepth 100000
theorem cells_int {n : Nat} {cs : List D} (h : CellsOk Try.prog (n + 1) 3 cs) : ∃ m : Int, cs = [.int m] := by
 have hu : Try.prog.underlying 3 = some (.int .i64) := by kernel_rfl
 simp only [CellsOk, hu] at h
 obtain ⟨m, rfl, _⟩ := h
 exact ⟨m, rfl⟩
theorem arg_int {x : D} (h : ArgOk Try.prog 3 x) : ∃ m : Int, x = .int m := by
 obtain ⟨cs, h, rfl⟩ := h
 obtain ⟨m, rfl⟩ := cells_int h
 rw [ty3]
 exact ⟨m, rfl⟩
theorem cells_arc {n : Nat} {cs : List D} (h : CellsOk Try.prog (n + 2) 49 cs) : ∃ p : Arc, cs = [.int p.1, .int p.2] := by
 have h := cells_struct (ts := [3, 3]) (by kernel_rfl) h
 obtain ⟨p, r, rfl, hp, q, r', rfl, hq, rfl⟩ := h
 obtain ⟨a, rfl⟩ := cells_int hp
 obtain ⟨b, rfl⟩ := cells_int hq
 exact ⟨(a, b), rfl⟩
theorem cells_arcs {n : Nat} {cs : List D} (h : CellsOk Try.prog (n + 3) 23 cs) : ∃ l : List Arc, cs = [arcsD l] := by
 obtain ⟨l, rfl, hl⟩ := cells_slice (e := 49) (by kernel_rfl) h
 obtain ⟨ys, rfl⟩ := map_of (f := arcD) (l := l) (fun d hd => by
  obtain ⟨es, rfl, _, he⟩ := hl d hd
  obtain ⟨p, rfl⟩ := cells_arc he
  rw [ty49]; exact ⟨p, rfl⟩)
 exact ⟨ys, rfl⟩
theorem cells_ints {n : Nat} {cs : List D} (h : CellsOk Try.prog (n + 2) 26 cs) : ∃ l : List Int, cs = [intsD l] ∧ l.length * 8 ≤ 140737488351232 := by
 obtain ⟨l, rfl, hb, hl⟩ := cells_sliceS (e := 3) (by kernel_rfl) h
 obtain ⟨ys, rfl⟩ := map_of (f := D.int) (l := l) (fun d hd => by
  obtain ⟨es, rfl, _, he⟩ := hl d hd
  obtain ⟨p, rfl⟩ := cells_int he
  rw [ty3]; exact ⟨p, rfl⟩)
 refine ⟨ys, rfl, ?_⟩
 have hb3 : Try.prog.bytesOf 3 = 8 := by kernel_rfl
 rw [hb3, List.length_map] at hb
 exact hb
theorem map_of2 {α : Type} {f : α → D} {p : α → Prop} : ∀ {l : List D}, (∀ d ∈ l, ∃ a, d = f a ∧ p a) → ∃ ys : List α, l = ys.map f ∧ ∀ y ∈ ys, p y
 | [], _ => ⟨[], rfl, fun y hy => by cases hy⟩
 | d :: l, h => by
  obtain ⟨a, rfl, ha⟩ := h d (by simp)
  obtain ⟨ys, rfl, hy⟩ := map_of2 (l := l) (fun e he => h e (List.mem_cons_of_mem _ he))
  refine ⟨a :: ys, rfl, fun y hy2 => ?_⟩
  rcases List.mem_cons.1 hy2 with rfl | hy2
  ·exact ha
  ·exact hy y hy2
theorem cells_lists {n : Nat} {cs : List D} (h : CellsOk Try.prog (n + 3) 22 cs) : ∃ l : List (List Int), cs = [listsD l] ∧ ∀ y ∈ l, y.length * 8 ≤ 140737488351232 := by
 obtain ⟨l, rfl, hl⟩ := cells_slice (e := 26) (by kernel_rfl) h
 obtain ⟨ys, rfl, hy⟩ := map_of2 (f := intsD) (p := fun y => y.length * 8 ≤ 140737488351232) (l := l) (fun d hd => by
  obtain ⟨es, rfl, _, he⟩ := hl d hd
  obtain ⟨p, rfl, hp⟩ := cells_ints he
  rw [ty26]; exact ⟨p, rfl, hp⟩)
 exact ⟨ys, rfl, hy⟩
theorem arg_ints {x : D} (h : ArgOk Try.prog 26 x) : ∃ l : List Int, x = intsD l := by
 obtain ⟨cs, h, rfl⟩ := h
 obtain ⟨l, rfl, _⟩ := cells_ints h
 rw [ty26]; exact ⟨l, rfl⟩
theorem arg_lv {x : D} (h : ArgOk Try.prog 25 x) : ∃ a : {a : Lv // wide a}, x = lvD a.1 := by
 obtain ⟨cs, h, rfl⟩ := h
 have h := cells_struct (ts := [3, 22, 23, 22]) (by kernel_rfl) h
 obtain ⟨_, _, rfl, h1, _, _, rfl, h2, _, _, rfl, h3, _, _, rfl, h4, rfl⟩ := h
 obtain ⟨a, rfl⟩ := cells_int h1
 obtain ⟨b, rfl, hb⟩ := cells_lists h2
 obtain ⟨c, rfl⟩ := cells_arcs h3
 obtain ⟨d, rfl, _⟩ := cells_lists h4
 rw [ty25]
 exact ⟨⟨(a, b, c, d), hb⟩, rfl⟩
end Go.Proofs.Ythbcmebhpabpnaa
namespace Go.Proofs.Ythbcmebhpabpnaa.Sx
open Go Go.PS Go.Proofs
set_option maxRecDepth 100000
attribute [local irreducible] wpRun wpG CallsTo

abbrev Bd := Int × Int × Int × Int
abbrev bdD (b : Bd) : D := .ag [.int b.1, .int b.2.1, .int b.2.2.1, .int b.2.2.2]
abbrev bdsD (l : List Bd) : D := .sl (l.map bdD)
abbrev intsD (l : List Int) : D := .sl (l.map D.int)
abbrev Net := Int × List Bd
abbrev nD (n : Net) : D := .ag [.int n.1, bdsD n.2]
theorem ite_min (a b : Int) : (if b < a then b else a) = min a b := by omega
theorem ite_max (a b : Int) : (if a < b then b else a) = max a b := by omega
def bdIn (n : Int) (b : Bd) : Bool := decide (0 ≤ b.1 ∧ b.1 < n ∧ 0 ≤ b.2.1 ∧ b.2.1 < n ∧ b.1 ≠ b.2.1 ∧ -16777216 ≤ b.2.2.1 ∧ b.2.2.1 ≤ 16777216 ∧ 0 ≤ b.2.2.2 ∧ b.2.2.2 ≤ 8000)
def nOk (n : Net) : Bool := decide (0 ≤ n.1 ∧ n.1 ≤ 2048 ∧ n.2.length ≤ 4096) && !n.2.any (fun b => !bdIn n.1 b)
theorem nOk_in {n : Net} (h : nOk n = true) : 0 ≤ n.1 ∧ n.1 ≤ 2048 ∧ n.2.length ≤ 4096 ∧ ∀ (k : Nat) b, n.2[k]? = some b →
  0 ≤ b.1 ∧ b.1 < n.1 ∧ 0 ≤ b.2.1 ∧ b.2.1 < n.1 ∧ b.1 ≠ b.2.1 ∧ -16777216 ≤ b.2.2.1 ∧ b.2.2.1 ≤ 16777216 ∧ 0 ≤ b.2.2.2 ∧ b.2.2.2 ≤ 8000 := by
 simp only [nOk, Bool.and_eq_true, decide_eq_true_eq, Bool.not_eq_true', List.any_eq_false] at h
 obtain ⟨⟨h1, h2, h3⟩, h4⟩ := h
 refine ⟨h1, h2, h3, fun k b hk => ?_⟩
 have := h4 b (List.mem_of_getElem? hk)
 simpa [bdIn] using this
set_option maxHeartbeats 2000000 in
theorem Valid_spec (g : Net) : CallsTo Try.prog 46 [nD g] (.bool (nOk g)) := by
 obtain ⟨n, l⟩ := g
 refine callsTo_of Try.func46 rfl (by decide +kernel) (Nat.le_of_ble_eq_true rfl) ?_
 intro hat B X w0
 have hl := at_len2 0 1 hat rfl rfl
 rw [List.length_map] at hl
 repeat' first | refine pw_step rfl ?_ | refine pw_ret ?_ | refine wR ?_ | (refine wpG_split rfl rfl (fun hc => ?_) (fun hc => ?_) <;> try simp only [hcL] at hc) | (refine pw_cond _ rfl rfl (fun hc => ?_) (fun hc => ?_) <;> (try simp only [hcL] at hc) <;> try omega) | simp (disch := omega) only [go_sem, simprocAttr] | apply And.intro | omega | decide +kernel
 all_goals try (refine bool_some ?_; simp [nOk]; omega)
 refine pw_loopI (κ := Nat) (fun (k : Nat) => k ≤ l.length ∧ ∀ (j : Nat) y, j < k → l[j]? = some y → (!bdIn n y) = false) (fun (k : Nat) => [(1, .ptr 1 0 0 0), (20, .d (bdsD l)), (21, .int l.length), (22, .int k)]) (fun (k : Nat) => [(1, .cells [.int n, .d (bdsD l)])]) (fun (k : Nat) => l.length - k) 0 ?_ ?_ ?_
 ·exact ⟨Nat.zero_le _, fun j y h => by omega⟩
 ·exact eL [] _ _ (by refine ⟨?_, ?_⟩ <;> (repeat' first | exact fmn | refine fmc ⟨(by first | rfl | (simp (disch := omega) only [go_sem, simprocAttr, inL]; first | done | omega | (congr 1; done))), ?_⟩); done)
 ·rintro k ⟨hk, hinv⟩
  rcases Nat.lt_or_ge k l.length with hlt | hge
  ·obtain ⟨p, hp⟩ := get_some hlt
   repeat' first | refine pw_step rfl ?_ | refine pw_ret ?_ | refine wR ?_ | (refine wpG_split rfl rfl (fun hc => ?_) (fun hc => ?_) <;> try simp only [hcL] at hc) | (refine pw_cond _ rfl rfl (fun hc => ?_) (fun hc => ?_) <;> (try simp only [hcL] at hc) <;> try omega) | simp (disch := omega) only [go_sem, simprocAttr, hp, ite_min, ite_max] | apply And.intro | omega | decide +kernel
   all_goals try
    refine bool_some ?_
    rw [nOk, any_at hp (by rw [bdIn, Bool.not_eq_true', decide_eq_false_iff_not]; omega)]
    simp
   ·refine ⟨k + 1, ?_, eL [] _ _ (by refine ⟨?_, ?_⟩ <;> (repeat' first | exact fmn | refine fmc ⟨(by first | rfl | (simp (disch := omega) only [go_sem, simprocAttr, inL]; first | done | omega | (congr 1; done))), ?_⟩); done), ?_⟩
    ·exact ⟨by omega, upto_succ hinv hp (by rw [bdIn, Bool.not_eq_false', decide_eq_true_eq]; omega)⟩
    ·omega
  ·repeat' first | refine pw_step rfl ?_ | refine pw_ret ?_ | refine wR ?_ | (refine wpG_split rfl rfl (fun hc => ?_) (fun hc => ?_) <;> try simp only [hcL] at hc) | (refine pw_cond _ rfl rfl (fun hc => ?_) (fun hc => ?_) <;> (try simp only [hcL] at hc) <;> try omega) | simp (disch := omega) only [go_sem, simprocAttr] | apply And.intro | omega | decide +kernel
   refine bool_some ?_
   rw [nOk, any_no (fun j y hj => hinv j y (by omega))]
   simp; omega
set_option maxHeartbeats 2000000 in
theorem rValid_spec (g : Net) : CallsTo Try.prog 13 [nD g] (.bool (nOk g)) := by
 obtain ⟨n, l⟩ := g
 refine callsTo_of Try.func13 rfl (by decide +kernel) (Nat.le_of_ble_eq_true rfl) ?_
 intro hat B X w0
 have hl := at_len2 0 1 hat rfl rfl
 rw [List.length_map] at hl
 repeat' first | refine pw_step rfl ?_ | refine pw_ret ?_ | refine wR ?_ | (refine wpG_split rfl rfl (fun hc => ?_) (fun hc => ?_) <;> try simp only [hcL] at hc) | (refine pw_cond _ rfl rfl (fun hc => ?_) (fun hc => ?_) <;> (try simp only [hcL] at hc) <;> try omega) | simp (disch := omega) only [go_sem, simprocAttr] | apply And.intro | omega | decide +kernel
 all_goals try (refine bool_some ?_; simp [nOk]; omega)
 refine pw_loopI (κ := Nat) (fun (k : Nat) => k ≤ l.length ∧ ∀ (j : Nat) y, j < k → l[j]? = some y → (!bdIn n y) = false) (fun (k : Nat) => [(1, .ptr 1 0 0 0), (3, .int k)]) (fun (k : Nat) => [(1, .cells [.int n, .d (bdsD l)])]) (fun (k : Nat) => l.length - k) 0 ?_ ?_ ?_
 ·exact ⟨Nat.zero_le _, fun j y h => by omega⟩
 ·exact eL [] _ _ (by refine ⟨?_, ?_⟩ <;> (repeat' first | exact fmn | refine fmc ⟨(by first | rfl | (simp (disch := omega) only [go_sem, simprocAttr, inL]; first | done | omega | (congr 1; done))), ?_⟩); done)
 ·rintro k ⟨hk, hinv⟩
  rcases Nat.lt_or_ge k l.length with hlt | hge
  ·obtain ⟨p, hp⟩ := get_some hlt
   repeat' first | refine pw_step rfl ?_ | refine pw_ret ?_ | refine wR ?_ | (refine wpG_split rfl rfl (fun hc => ?_) (fun hc => ?_) <;> try simp only [hcL] at hc) | (refine pw_cond _ rfl rfl (fun hc => ?_) (fun hc => ?_) <;> (try simp only [hcL] at hc) <;> try omega) | simp (disch := omega) only [go_sem, simprocAttr, hp] | apply And.intro | omega | decide +kernel
   all_goals try
    refine bool_some ?_
    rw [nOk, any_at hp (by rw [bdIn, Bool.not_eq_true', decide_eq_false_iff_not]; omega)]
    simp
   ·refine ⟨k + 1, ?_, eL [] _ _ (by refine ⟨?_, ?_⟩ <;> (repeat' first | exact fmn | refine fmc ⟨(by first | rfl | (simp (disch := omega) only [go_sem, simprocAttr, inL]; first | done | omega | (congr 1; done))), ?_⟩); done), ?_⟩
    ·exact ⟨by omega, upto_succ hinv hp (by rw [bdIn, Bool.not_eq_false', decide_eq_true_eq]; omega)⟩
    ·omega
  ·repeat' first | refine pw_step rfl ?_ | refine pw_ret ?_ | refine wR ?_ | (refine wpG_split rfl rfl (fun hc => ?_) (fun hc => ?_) <;> try simp only [hcL] at hc) | (refine pw_cond _ rfl rfl (fun hc => ?_) (fun hc => ?_) <;> (try simp only [hcL] at hc) <;> try omega) | simp (disch := omega) only [go_sem, simprocAttr] | apply And.intro | omega | decide +kernel
   refine bool_some ?_
   rw [nOk, any_no (fun j y hj => hinv j y (by omega))]
   simp; omega
end Go.Proofs.Ythbcmebhpabpnaa.Sx
namespace Go.Proofs.Ythbcmebhpabpnaa.Sx
open Go Go.PS Go.Proofs
set_option maxRecDepth 100000
attribute [local irreducible] wpRun wpG CallsTo

def rkIn (x : Int) : Bool := decide (-34359738368 ≤ x ∧ x ≤ 34359738368)
def rkOk (g : Net) (r : List Int) : Bool := nOk g && decide ((r.length : Int) = g.1) && !r.any (fun x => !rkIn x)
def at0 (r : List Int) (v : Int) : Int := (r[v.toNat]?).getD 0
theorem at0_get {r : List Int} {v : Int} (h1 : 0 ≤ v) (h2 : v < r.length) : r[v.toNat]? = some (at0 r v) := by
 obtain ⟨x, hx⟩ := get_some (show v.toNat < r.length by omega)
 rw [at0, hx]; rfl
theorem rkOk_in {g : Net} {r : List Int} (h : rkOk g r = true) : nOk g = true ∧ (r.length : Int) = g.1 ∧ ∀ v : Int, 0 ≤ v → v < g.1 → r[v.toNat]? = some (at0 r v) ∧ -34359738368 ≤ at0 r v ∧ at0 r v ≤ 34359738368 := by
 simp only [rkOk, Bool.and_eq_true, decide_eq_true_eq, Bool.not_eq_true', List.any_eq_false] at h
 obtain ⟨⟨h1, h2⟩, h3⟩ := h
 refine ⟨h1, h2, fun v hv1 hv2 => ?_⟩
 have := at0_get hv1 (show v < r.length by omega)
 refine ⟨this, ?_⟩
 have := h3 _ (List.mem_of_getElem? this)
 simpa [rkIn] using this
def gap (r : List Int) (b : Bd) : Int := at0 r b.2.1 - at0 r b.1
def feasF (g : Net) (r : List Int) : Bool := rkOk g r && !g.2.any (fun b => decide (gap r b < b.2.2.1))
end Go.Proofs.Ythbcmebhpabpnaa.Sx
namespace Go.Proofs.Ythbcmebhpabpnaa.Sx
open Go Go.PS Go.Proofs
set_option maxRecDepth 100000
attribute [local irreducible] wpRun wpG CallsTo

def sumI (f : Nat → Int) : Nat → Int
 | 0 => 0
 | k + 1 => sumI f k + f k
theorem sumI_succ (f : Nat → Int) (k : Nat) : sumI f (k + 1) = sumI f k + f k := rfl
theorem sumI_le {f : Nat → Int} {c : Int} {m : Nat} (h : ∀ k, k < m → -c ≤ f k ∧ f k ≤ c) : ∀ k, k ≤ m → -(c * k) ≤ sumI f k ∧ sumI f k ≤ c * k := by
 intro k
 induction k with
 | zero => intro _; simp [sumI]
 | succ k ih =>
  intro hk
  have h1 := ih (by omega)
  have h2 := h k (by omega)
  have : c * ((k + 1 : Nat) : Int) = c * k + c := by rw [Int.natCast_succ, Int.mul_add, Int.mul_one]
  rw [sumI, this]; omega
def costAt (r : List Int) (l : List Bd) (k : Nat) : Int := match l[k]? with
 | some b => b.2.2.2 * gap r b
 | none => 0
theorem costAt_some {r : List Int} {l : List Bd} {k : Nat} {b : Bd} (h : l[k]? = some b) : costAt r l k = b.2.2.2 * (at0 r b.2.1 - at0 r b.1) := by simp [costAt, h, gap]
def costF (g : Net) (r : List Int) : Int := if rkOk g r then sumI (costAt r g.2) g.2.length else 0
end Go.Proofs.Ythbcmebhpabpnaa.Sx
namespace Go.Proofs.Ythbcmebhpabpnaa.Sx
open Go Go.PS Go.Proofs
set_option maxRecDepth 100000
attribute [local irreducible] wpRun wpG CallsTo

def addAt (l : List Bd) (f : List Int) (v : Int) (j : Nat) : Int := match l[j]?, f[j]? with
 | some b, some x => (if b.2.1 = v then x - b.2.2.2 else 0) - (if b.1 = v then x - b.2.2.2 else 0)
 | _, _ => 0
end Go.Proofs.Ythbcmebhpabpnaa.Sx
namespace Go.Proofs.Ythbcmebhpabpnaa.Sx
open Go Go.PS Go.Proofs
set_option maxRecDepth 100000
attribute [local irreducible] wpRun wpG CallsTo
end Go.Proofs.Ythbcmebhpabpnaa.Sx
namespace Go.Proofs.Ythbcmebhpabpnaa.Sx
open Go Go.PS Go.Proofs
set_option maxRecDepth 100000
attribute [local irreducible] wpRun wpG CallsTo CallsM
abbrev pD (n : Nat) (l : List Bd) (f : List Int) : D := .pt [.int n, bdsD l, intsD f]
def allI (n : Nat) : List Int := (List.range n).map fun u : Nat => (u : Int)
def fillRow (g : Nat → Int) (n k : Nat) : List Int := (List.range n).map fun u => if u < k then g u else 0
theorem fillRow_len (g : Nat → Int) (n k : Nat) : (fillRow g n k).length = n := by simp [fillRow]
theorem fillRow_get {g : Nat → Int} {n k u : Nat} (h : u < n) : (fillRow g n k)[u]? = some (if u < k then g u else 0) := by simp [fillRow, h]
theorem fillRow_zero (g : Nat → Int) (n : Nat) : (fillRow g n 0).map D.int = List.replicate n (D.int 0) := by
 rw [List.eq_replicate_iff]
 refine ⟨by simp [fillRow], fun b hb => ?_⟩
 simp only [fillRow, List.map_map, List.mem_map] at hb
 obtain ⟨u, _, rfl⟩ := hb
 simp
theorem fillRow_step {g : Nat → Int} {n k : Nat} (h : k < n) : (fillRow g n k).set k (g k) = fillRow g n (k + 1) := by
 refine List.ext_getElem? fun u => ?_
 by_cases hu : u < n
 ·rw [fillRow_get hu, List.getElem?_set, fillRow_get hu, fillRow_len]
  by_cases c : k = u
  ·subst c; rw [if_pos rfl, if_pos h, if_pos (by omega)]
  ·rw [if_neg c]
   by_cases c2 : u < k
   ·rw [if_pos c2, if_pos (by omega)]
   ·rw [if_neg c2, if_neg (by omega)]
 ·rw [List.getElem?_eq_none (by rw [List.length_set, fillRow_len]; omega), List.getElem?_eq_none (by rw [fillRow_len]; omega)]
theorem fillRow_end (g : Nat → Int) (n : Nat) : fillRow g n n = (List.range n).map g := by
 rw [fillRow]
 refine List.map_congr_left fun u hu => ?_
 rw [if_pos (List.mem_range.1 hu)]
set_option maxHeartbeats 1000000 in
theorem all_spec (n : Nat) (l : List Bd) (f : List Int) (hn : n ≤ 2048) : CallsM Try.prog 48 [.d (pD n l f)] [(2000, .dead)] (.ref 2000 1 0 n n) [(2000, .row 1 ((allI n).map D.int))] := by
 refine callsM_of Try.func48 rfl (by decide +kernel) (Nat.le_of_ble_eq_true rfl) rfl (nodup_of rfl) rfl rfl rfl ?_
 intro B X w0
 repeat' first | refine pw_step rfl ?_ | refine pw_ret ?_ | refine pw_region (Nat.beq 10) hmix ?_ | (refine wpG_split rfl rfl (fun hc => ?_) (fun hc => ?_) <;> try simp only [hcL] at hc) | (refine pw_cond _ rfl rfl (fun hc => ?_) (fun hc => ?_) <;> (try simp only [hcL] at hc) <;> try omega) | simp (disch := omega) only [go_sem, simprocAttr] | apply And.intro | omega | decide +kernel
 refine pw_loopI (κ := Nat) (fun (k : Nat) => k ≤ n) (fun (k : Nat) => [(3, .ref 10 1 0 n n), (12, .int n), (13, .int k)]) (fun (k : Nat) => [(10, .row 1 ((fillRow (fun u => (u : Int)) n k).map D.int))]) (fun (k : Nat) => n - k) 0 ?_ ?_ ?_
 ·exact Nat.zero_le _
 ·exact eL [] _ _ (by refine ⟨?_, ?_⟩ <;> (repeat' first | exact fmn | refine fmc ⟨(by first | rfl | (simp (disch := omega) only [go_sem, simprocAttr, inL, fillRow_zero]; first | done | omega | (congr 1; done))), ?_⟩); done)
 ·intro k hk
  have hlen := fillRow_len (fun u => (u : Int)) n k
  rcases Nat.lt_or_ge k n with hlt | hge
  ·have hg : (fillRow (fun u => (u : Int)) n k)[k]? = _ := fillRow_get hlt
   have hst := fillRow_step (g := fun u => (u : Int)) hlt
   repeat' first | refine pw_step rfl ?_ | refine pw_ret ?_ | refine wR ?_ | (refine wpG_split rfl rfl (fun hc => ?_) (fun hc => ?_) <;> try simp only [hcL] at hc) | (refine pw_cond _ rfl rfl (fun hc => ?_) (fun hc => ?_) <;> (try simp only [hcL] at hc) <;> try omega) | simp (disch := omega) only [go_sem, simprocAttr, hg, hlen] | apply And.intro | omega | decide +kernel
   refine ⟨k + 1, ?_, eL [] _ _ (by refine ⟨?_, ?_⟩ <;> (repeat' first | exact fmn | refine fmc ⟨(by first | rfl | (simp (disch := omega) only [go_sem, simprocAttr, inL, hst.symm, List.map_set]; first | done | omega | (congr 1; done))), ?_⟩); done), ?_⟩
   ·omega
   ·omega
  ·repeat' first | refine pw_step rfl ?_ | refine wR ?_ | (refine wpG_split rfl rfl (fun hc => ?_) (fun hc => ?_) <;> try simp only [hcL] at hc) | (refine pw_cond _ rfl rfl (fun hc => ?_) (fun hc => ?_) <;> (try simp only [hcL] at hc) <;> try omega) | simp (disch := omega) only [go_sem, simprocAttr] | apply And.intro | omega | decide +kernel
   have : k = n := by omega
   subst this
   refine eR [(2000, 10)] [(2, .ref 2000 1 0 _ _)] [(2000, .row 1 _)] (by refine ⟨?_, ?_⟩ <;> (repeat' first | exact fmn | refine fmc ⟨(by first | rfl | (simp (disch := omega) only [go_sem, simprocAttr, inL]; first | done | omega | (congr 1; done))), ?_⟩); done) ?_
   refine pw_ret ?_
   exact ⟨rfl, List.forall_mem_cons.2 ⟨row_ob (by rw [fillRow_end]; rfl), List.forall_mem_nil _⟩⟩
def needAt (l : List Bd) (v : Int) (j : Nat) : Int := match l[j]? with
 | some b => (if b.2.1 = v then b.2.2.2 else 0) - (if b.1 = v then b.2.2.2 else 0)
 | none => 0
def needRow (l : List Bd) (n k : Nat) : List Int := (List.range n).map fun v : Nat => sumI (needAt l v) k
theorem needRow_len (l : List Bd) (n k : Nat) : (needRow l n k).length = n := by simp [needRow]
theorem needRow_zero (l : List Bd) (n : Nat) : (needRow l n 0).map D.int = List.replicate n (D.int 0) := by
 rw [List.eq_replicate_iff]
 refine ⟨by simp [needRow], fun b hb => ?_⟩
 simp only [needRow, List.map_map, List.mem_map] at hb
 obtain ⟨u, _, rfl⟩ := hb
 rfl
theorem needRow_get {l : List Bd} {n k u : Nat} (hu : u < n) : (needRow l n k)[u]? = some (sumI (needAt l u) k) := by simp [needRow, hu]
theorem need_step {l : List Bd} {n k i j : Nat} {b : Bd} (hb : l[k]? = some b) (hi : b.1 = i) (hj : b.2.1 = j) (hij : i ≠ j) (hin : i < n) (hjn : j < n) :
  needRow l n (k + 1) = ((needRow l n k).set j (sumI (needAt l j) k + b.2.2.2)).set i (sumI (needAt l i) k - b.2.2.2) := by
 refine List.ext_getElem? fun u => ?_
 by_cases hu : u < n
 ·rw [needRow_get hu, sumI_succ, List.getElem?_set, List.getElem?_set, List.length_set, needRow_len, needRow_get hu]
  have e : needAt l u k = (if b.2.1 = (u : Int) then b.2.2.2 else 0) - (if b.1 = (u : Int) then b.2.2.2 else 0) := by simp [needAt, hb]
  rw [e, hi, hj]
  by_cases c1 : i = u
  ·subst c1
   rw [if_neg (by omega), if_pos rfl, if_pos rfl, if_pos hu]; congr 1; omega
  ·by_cases c2 : j = u
   ·subst c2
    rw [if_pos rfl, if_neg (by omega), if_neg c1, if_pos rfl, if_pos hu]; congr 1; omega
   ·rw [if_neg (by omega), if_neg (by omega), if_neg c1, if_neg c2]; congr 1; omega
 ·rw [List.getElem?_eq_none (by rw [needRow_len]; omega), List.getElem?_eq_none (by rw [List.length_set, List.length_set, needRow_len]; omega)]
theorem need_bd {l : List Bd} {v : Int} {m : Nat} (hm : m ≤ l.length) (h4 : ∀ (k : Nat) b, l[k]? = some b → 0 ≤ b.2.2.2 ∧ b.2.2.2 ≤ 8000) :
  -(8000 * (m : Int)) ≤ sumI (needAt l v) m ∧ sumI (needAt l v) m ≤ 8000 * (m : Int) := by
 refine sumI_le (m := m) (fun k hk => ?_) m (Nat.le_refl _)
 obtain ⟨b, hb⟩ := get_some (show k < l.length by omega)
 have h5 := h4 k b hb
 simp only [needAt, hb]
 split <;> split <;> omega
set_option maxHeartbeats 1000000 in
theorem needs_spec (n : Nat) (l : List Bd) (f : List Int) (hg : nOk (n, l) = true) : CallsM Try.prog 69 [.d (pD n l f)] [(2000, .dead)] (.ref 2000 1 0 n n) [(2000, .row 1 ((needRow l n l.length).map D.int))] := by
 obtain ⟨h1, h2, h3, h4⟩ := nOk_in hg
 dsimp only at h1 h2 h3 h4
 refine callsM_of Try.func69 rfl (by decide +kernel) (Nat.le_of_ble_eq_true rfl) rfl (nodup_of rfl) rfl rfl rfl ?_
 intro B X w0
 repeat' first | refine pw_step rfl ?_ | refine pw_ret ?_ | refine pw_region (Nat.beq 11) hmix ?_ | (refine wpG_split rfl rfl (fun hc => ?_) (fun hc => ?_) <;> try simp only [hcL] at hc) | (refine pw_cond _ rfl rfl (fun hc => ?_) (fun hc => ?_) <;> (try simp only [hcL] at hc) <;> try omega) | simp (disch := omega) only [go_sem, simprocAttr] | apply And.intro | omega | decide +kernel
 refine pw_loopI (κ := Nat) (fun (k : Nat) => k ≤ l.length) (fun (k : Nat) => [(3, .ref 11 1 0 n n), (16, .d (bdsD l)), (17, .int l.length), (18, .int k)]) (fun (k : Nat) => [(11, .row 1 ((needRow l n k).map D.int))]) (fun (k : Nat) => l.length - k) 0 ?_ ?_ ?_
 ·exact Nat.zero_le _
 ·exact eL [] _ _ (by refine ⟨?_, ?_⟩ <;> (repeat' first | exact fmn | refine fmc ⟨(by first | rfl | (simp (disch := omega) only [go_sem, simprocAttr, inL, needRow_zero]; first | done | omega | (congr 1; done))), ?_⟩); done)
 ·intro k hk
  have hbl := needRow_len l n k
  rcases Nat.lt_or_ge k l.length with hlt | hge
  ·obtain ⟨b, hb⟩ := get_some hlt
   have hbi := h4 k b hb
   obtain ⟨i, hi⟩ : ∃ i : Nat, b.1 = i := ⟨b.1.toNat, by omega⟩
   obtain ⟨j, hj⟩ : ∃ j : Nat, b.2.1 = j := ⟨b.2.1.toNat, by omega⟩
   have gi : (needRow l n k)[i]? = _ := needRow_get (by omega)
   have gj : (needRow l n k)[j]? = _ := needRow_get (by omega)
   have bi := need_bd (v := i) (show k ≤ l.length by omega) (fun k b hb => by have := h4 k b hb; omega)
   have bj := need_bd (v := j) (show k ≤ l.length by omega) (fun k b hb => by have := h4 k b hb; omega)
   have hst := need_step (n := n) hb hi hj (by omega) (by omega) (by omega)
   have hij : j ≠ i := by omega
   have gs : ((List.map D.int (needRow l n k)).set j (D.sc (.int .i64 (sumI (needAt l j) k + b.2.2.2))))[i]? = some (D.int (sumI (needAt l i) k)) := by
    rw [List.getElem?_set_ne hij, List.getElem?_map, gi]; rfl
   repeat' first | refine pw_step rfl ?_ | refine pw_ret ?_ | refine wR ?_ | (refine wpG_split rfl rfl (fun hc => ?_) (fun hc => ?_) <;> try simp only [hcL] at hc) | (refine pw_cond _ rfl rfl (fun hc => ?_) (fun hc => ?_) <;> (try simp only [hcL] at hc) <;> try omega) | simp (disch := omega) only [go_sem, simprocAttr, hb, hi, hj, gi, gj, gs, hbl, List.length_set] | apply And.intro | omega | decide +kernel
   refine ⟨k + 1, ?_, eL [] _ _ (by refine ⟨?_, ?_⟩ <;> (repeat' first | exact fmn | refine fmc ⟨(by first | rfl | (simp (disch := omega) only [go_sem, simprocAttr, inL, hst, List.map_set]; first | done | omega | (congr 1; done))), ?_⟩); done), ?_⟩
   ·omega
   ·omega
  ·repeat' first | refine pw_step rfl ?_ | refine wR ?_ | (refine wpG_split rfl rfl (fun hc => ?_) (fun hc => ?_) <;> try simp only [hcL] at hc) | (refine pw_cond _ rfl rfl (fun hc => ?_) (fun hc => ?_) <;> (try simp only [hcL] at hc) <;> try omega) | simp (disch := omega) only [go_sem, simprocAttr] | apply And.intro | omega | decide +kernel
   have : k = l.length := by omega
   subst this
   refine eR [(2000, 11)] [(2, .ref 2000 1 0 _ _)] [(2000, .row 1 _)] (by refine ⟨?_, ?_⟩ <;> (repeat' first | exact fmn | refine fmc ⟨(by first | rfl | (simp (disch := omega) only [go_sem, simprocAttr, inL]; first | done | omega | (congr 1; done))), ?_⟩); done) ?_
   refine pw_ret ?_
   exact ⟨rfl, List.forall_mem_cons.2 ⟨rfl, List.forall_mem_nil _⟩⟩
end Go.Proofs.Ythbcmebhpabpnaa.Sx
namespace Go.Proofs.Ythbcmebhpabpnaa.Sx
open Go Go.PS Go.Proofs
set_option maxRecDepth 100000
attribute [local irreducible] wpRun wpG CallsTo
def mirB (b : Bd) : Bd := (b.2.1, b.1, b.2.2.1, b.2.2.2)
def mirF (g : Net) : Net := (g.1, g.2.map mirB)
end Go.Proofs.Ythbcmebhpabpnaa.Sx
namespace Go.Proofs.Ythbcmebhpabpnaa.Sx
open Go Go.PS Go.Proofs
set_option maxRecDepth 100000
attribute [local irreducible] wpRun wpG CallsTo

def within (r : List Int) (m : Int) : Prop := ∀ v : Int, -m ≤ at0 r v ∧ at0 r v ≤ m
theorem at0_set (r : List Int) (i : Nat) (x v : Int) (hv : 0 ≤ v) : at0 (r.set i x) v = if v = i ∧ i < r.length then x else at0 r v := by
 simp only [at0, List.getElem?_set]
 by_cases h : i = v.toNat
 ·subst h
  by_cases h2 : v.toNat < r.length
  ·rw [if_pos rfl, if_pos h2, if_pos (by omega)]; rfl
  ·rw [if_pos rfl, if_neg h2, if_neg (by omega), List.getElem?_eq_none (by omega)]
 ·rw [if_neg h, if_neg (by omega)]
theorem at0_neg (r : List Int) (v : Int) (hv : v < 0) : at0 r v = at0 r 0 := by
 rw [at0, at0, show v.toNat = 0 by omega]; rfl
theorem within_set {r : List Int} {m : Int} {i : Nat} {x : Int} (h : within r m) (h1 : -m ≤ x) (h2 : x ≤ m) : within (r.set i x) m := by
 have key : ∀ v : Int, 0 ≤ v → -m ≤ at0 (r.set i x) v ∧ at0 (r.set i x) v ≤ m := by
  intro v hv
  rw [at0_set _ _ _ _ hv]
  split
  ·exact ⟨h1, h2⟩
  ·exact h v
 intro v
 rcases (show v < 0 ∨ 0 ≤ v by omega) with hv | hv
 ·rw [at0_neg _ _ hv]; exact key 0 (Int.le_refl _)
 ·exact key v hv
theorem within_le {r : List Int} {m m' : Int} (h : within r m) (hm : m ≤ m') : within r m' := fun v => by have := h v; omega
theorem at0_at {r : List Int} {i : Nat} (h : i < r.length) : r[i]? = some (at0 r i) := by
 obtain ⟨x, hx⟩ := get_some h
 rw [at0, Int.toNat_natCast, hx]; rfl
end Go.Proofs.Ythbcmebhpabpnaa.Sx
namespace Go.Proofs.Ythbcmebhpabpnaa.Sx
open Go Go.PS Go.Proofs
set_option maxRecDepth 100000
attribute [local irreducible] wpRun wpG CallsTo

def topN (a b : List Int) : Nat → Int
 | 0 => 0
 | k + 1 => max (max (topN a b k) (at0 a k)) (at0 b k)
def halfAt (a b : List Int) (t : Int) (v : Nat) : Int := (at0 a v + t - at0 b v) / 2
def lowN (h : Nat → Int) : Nat → Int
 | 0 => 0
 | k + 1 => if k = 0 ∨ h k < lowN h k then h k else lowN h k
def midF (a b : List Int) : List Int :=
 let t := topN a b a.length
 (List.range a.length).map fun v => halfAt a b t v - lowN (halfAt a b t) a.length
def fromTo (a : List Int) (m : Int) : Prop := ∀ v : Nat, 0 ≤ at0 a v ∧ at0 a v ≤ m
theorem topN_in {a b : List Int} {m : Int} (ha : fromTo a m) (hb : fromTo b m) : ∀ k, 0 ≤ topN a b k ∧ topN a b k ≤ m
 | 0 => by have := ha 0; simp only [topN]; omega
 | k + 1 => by have := topN_in ha hb k; have := ha k; have := hb k; simp only [topN]; omega
theorem topN_mono {a b : List Int} {j k : Nat} (h : j ≤ k) : topN a b j ≤ topN a b k := by
 induction k with
 | zero => rw [show j = 0 by omega]; exact Int.le_refl _
 | succ k ih =>
  rcases Nat.lt_or_ge j (k + 1) with h1 | h1
  ·have := ih (by omega); simp only [topN]; omega
  ·rw [show j = k + 1 by omega]; exact Int.le_refl _
theorem topN_ge {a b : List Int} {j k : Nat} (h : j < k) : at0 a j ≤ topN a b k ∧ at0 b j ≤ topN a b k := by
 have h1 := topN_mono (a := a) (b := b) (show j + 1 ≤ k by omega)
 simp only [topN] at h1; omega
theorem halfAt_in {a b : List Int} {t m : Int} {v : Nat} (ha : fromTo a m) (hb : fromTo b m) (ht : 0 ≤ t ∧ t ≤ m) : -m ≤ halfAt a b t v ∧ halfAt a b t v ≤ m := by
 have := ha v; have := hb v; rw [halfAt]; omega
theorem lowN_in {h : Nat → Int} {m : Int} (hm : 0 ≤ m) (hh : ∀ v, -m ≤ h v ∧ h v ≤ m) : ∀ k, -m ≤ lowN h k ∧ lowN h k ≤ m
 | 0 => by simp only [lowN]; omega
 | k + 1 => by
  have := lowN_in hm hh k; have := hh k
  simp only [lowN]; split <;> omega
def rowN (h : Nat → Int) (k : Nat) : List Int := (List.range k).map h
def turnRow (h g : Nat → Int) (n k : Nat) : List Int := (List.range n).map fun u => if u < k then g u else h u
theorem turnRow_len (h g : Nat → Int) (n k : Nat) : (turnRow h g n k).length = n := by simp [turnRow]
theorem turnRow_get {h g : Nat → Int} {n k u : Nat} (hu : u < n) : (turnRow h g n k)[u]? = some (if u < k then g u else h u) := by simp [turnRow, hu]
theorem turnRow_zero (h g : Nat → Int) (n : Nat) : turnRow h g n 0 = rowN h n := by simp [turnRow, rowN]
theorem turnRow_end (h g : Nat → Int) (n : Nat) : turnRow h g n n = rowN g n := by
 simp only [turnRow, rowN]
 refine List.map_congr_left fun u hu => ?_
 rw [if_pos (List.mem_range.1 hu)]
theorem turnRow_step {h g : Nat → Int} {n k : Nat} (hk : k < n) : (turnRow h g n k).set k (g k) = turnRow h g n (k + 1) := by
 refine List.ext_getElem? fun u => ?_
 by_cases hu : u < n
 ·rw [turnRow_get hu, List.getElem?_set, turnRow_get hu, turnRow_len]
  by_cases c : k = u
  ·subst c; rw [if_pos rfl, if_pos hk, if_pos (by omega)]
  ·rw [if_neg c]
   by_cases c2 : u < k
   ·rw [if_pos c2, if_pos (by omega)]
   ·rw [if_neg c2, if_neg (by omega)]
 ·rw [List.getElem?_eq_none (by rw [List.length_set, turnRow_len]; omega), List.getElem?_eq_none (by rw [turnRow_len]; omega)]
end Go.Proofs.Ythbcmebhpabpnaa.Sx
namespace Go.Proofs.Ythbcmebhpabpnaa.Sx
open Go Go.PS Go.Proofs
set_option maxRecDepth 100000
attribute [local irreducible] wpRun wpG CallsTo CallsM

abbrev Stp := Int × Int × Int × Bool
abbrev stD (s : Stp) : D := .ag [.int s.1, .int s.2.1, .int s.2.2.1, .bool s.2.2.2]
def stepsOf (l : List Bd) (f : List Int) (v k : Nat) : List Stp := match l[k]? with
 | some b => (if b.1 = v then [(b.2.1, b.2.2.1, (k : Int), false)] else []) ++ (if 0 < at0 f k ∧ b.2.1 = v then [(b.1, -b.2.2.1, (k : Int), true)] else [])
 | none => []
def stepsAt (l : List Bd) (f : List Int) (v : Nat) : Nat → List Stp := catN (stepsOf l f v)
def stepsD (l : List Bd) (f : List Int) (k v : Nat) : List D := (stepsAt l f v k).map stD
abbrev stepsR (n : Nat) (l : List Bd) (f : List Int) : List D := (List.range n).map fun v => .sl (stepsD l f l.length v)
theorem stepsD_succ {l : List Bd} {f : List Int} {k : Nat} {b : Bd} {p q : Nat} (hb : l[k]? = some b) (hp : b.1 = p) (hq : b.2.1 = q) (hpq : p ≠ q) (v : Nat) :
  stepsD l f (k + 1) v = if v = p then stepsD l f k v ++ [stD (q, b.2.2.1, k, false)] else if v = q ∧ 0 < at0 f k then stepsD l f k v ++ [stD (p, -b.2.2.1, k, true)] else stepsD l f k v := by
 simp only [stepsD, stepsAt, catN, stepsOf, hb, hp, hq, List.map_append]
 by_cases h1 : v = p
 ·subst h1; rw [if_pos rfl, if_neg (by omega), if_pos rfl]; simp
 ·rw [if_neg (by omega), if_neg h1]
  by_cases h2 : v = q ∧ 0 < at0 f k
  ·rw [if_pos ⟨h2.2, by omega⟩, if_pos h2]; simp
  ·rw [if_neg (by omega), if_neg h2]; simp
theorem stepsD_len (l : List Bd) (f : List Int) (v : Nat) : ∀ k, (stepsD l f k v).length ≤ 2 * k
 | 0 => by simp [stepsD, stepsAt, catN]
 | k + 1 => by
  have := stepsD_len l f v k
  simp only [stepsD, stepsAt, catN, List.map_append, List.length_append, List.length_map] at this ⊢
  have : (stepsOf l f v k).length ≤ 2 := by
   rw [stepsOf]; split
   ·split <;> split <;> simp
   ·simp
  omega
set_option maxHeartbeats 2000000 in
theorem steps_spec (n : Nat) (l : List Bd) (f : List Int) (hn : n ≤ 2048) (hl : l.length ≤ 4096) (hfl : f.length = l.length)
  (hb : ∀ (k : Nat) b, l[k]? = some b → 0 ≤ b.1 ∧ b.1 < n ∧ 0 ≤ b.2.1 ∧ b.2.1 < n ∧ b.1 ≠ b.2.1 ∧ -16777216 ≤ b.2.2.1 ∧ b.2.2.1 ≤ 16777216) :
  CallsTo Try.prog 68 [pD n l f] (.sl (stepsR n l f)) := by
 refine callsTo_of Try.func68 rfl (by decide +kernel) (Nat.le_of_ble_eq_true rfl) ?_
 intro hat B X w0
 repeat' first | refine pw_step rfl ?_ | refine pw_ret ?_ | refine pw_region (fun s => (Nat.beq 11 s).or ((Nat.beq 37 s).or (Nat.beq 63 s))) hmix ?_ | (refine wpG_split rfl rfl (fun hc => ?_) (fun hc => ?_) <;> try simp only [hcL] at hc) | (refine pw_cond _ rfl rfl (fun hc => ?_) (fun hc => ?_) <;> (try simp only [hcL] at hc) <;> try omega) | simp (disch := omega) only [go_sem, simprocAttr] | apply And.intro | omega | decide +kernel
 refine pw_ent _ (ent_famNew 1 11 4 n rfl (fun i hi => by simp (disch := omega) only [go_sem, simprocAttr, obOf_fid, argEnv]) (by decide) (by decide)) ?_
 refine pw_loopF (κ := Nat) (fun (k : Nat) => k ≤ l.length) (fun (k : Nat) => [(0, .d (pD n l f)), (3, .ref 11 1 0 n n), (16, .d (bdsD l)), (17, .int l.length), (18, .int k)]) (fun (k : Nat) => [⟨1, 11, 4, n, stepsD l f k⟩]) (fun (k : Nat) => []) (fun (k : Nat) => l.length - k) 0 ?_ ?_ ?_
 ·exact Nat.zero_le _
 ·refine eF [] [] _ _ _ (by refine ⟨?_, ?_⟩ <;> (repeat' first | exact fmn | refine fmc ⟨(by first | rfl | (simp (disch := omega) only [go_sem, simprocAttr, inL]; first | done | omega | (congr 1; done))), ?_⟩); done) ?_
  repeat' first | exact fmn | refine fmc ⟨?_, ?_⟩
  all_goals refine ⟨_, (by first | rfl | (simp (disch := omega) only [go_sem, simprocAttr, stepsD, stepsAt, catN]; done) | (simp (disch := omega) only [go_sem, simprocAttr, stepsD, stepsAt, catN]; rfl)), fun i hi => ?_⟩
  all_goals dsimp only at hi ⊢
  all_goals try (exfalso; omega)
  all_goals try (simp (disch := omega) only [go_sem, simprocAttr, stepsD, stepsAt, catN, fid_lit, lit_fid]; done)
 ·intro k hk
  rcases Nat.lt_or_ge k l.length with hlt | hge
  ·obtain ⟨b, hbk⟩ := get_some hlt
   have hbi := hb k b hbk
   obtain ⟨p, hp⟩ : ∃ p : Nat, b.1 = p := ⟨b.1.toNat, by omega⟩
   obtain ⟨q, hq⟩ : ∃ q : Nat, b.2.1 = q := ⟨b.2.1.toNat, by omega⟩
   have hpq : p ≠ q := by omega
   have hqp : q ≠ p := by omega
   have hpn : p < n := by omega
   have hqn : q < n := by omega
   have gf := at0_at (r := f) (i := k) (by omega)
   have hsu := stepsD_succ (f := f) hbk hp hq hpq
   have e1 := stepsD_len l f p k
   have e2 := stepsD_len l f q k
   refine pw_ent _ (ent_bor _ _ [11] 11 p 900 1 4 n (by first | rfl | (simp (disch := omega) only [go_sem, simprocAttr]; done) | (simp (disch := omega) only [go_sem, simprocAttr]; rfl)) (by first | (simp (disch := omega) only [go_sem, simprocAttr]; done) | (simp (disch := omega) only [go_sem, simprocAttr]; rfl)) (by first | (simp (disch := omega) only [go_sem, simprocAttr]; done) | (simp (disch := omega) only [go_sem, simprocAttr]; rfl)) (fun i hi hne => by simp (disch := omega) only [go_sem, simprocAttr, hne]; (repeat' split) <;> exact .ref _ _ _ _ _ ⟨by simp (disch := omega) only [go_sem, simprocAttr, hne], by simp (disch := omega) only [go_sem, simprocAttr, hne]⟩) (by (repeat' first | refine ab_nil ?_ | exact ab_obOf (ids := [11]) rfl rfl (Nat.le_of_ble_eq_true rfl) | refine ab_hole ?_ | refine ab_row ?_ | refine ab_dead ?_ | refine ab_self ?_ | refine ab_self_fam ?_ | refine ab_fam (by dsimp only; omega) (by dsimp only; omega) (by omega) (by omega) (Nat.le_of_ble_eq_true rfl) ?_); done) rfl rfl rfl) ?_
   refine pw_ent _ (ent_bor _ _ [11, 900] 11 q 901 1 4 n (by first | rfl | (simp (disch := omega) only [go_sem, simprocAttr, hpq, hqp]; done) | (simp (disch := omega) only [go_sem, simprocAttr, hpq, hqp]; rfl)) (by first | (simp (disch := omega) only [go_sem, simprocAttr, hpq, hqp]; done) | (simp (disch := omega) only [go_sem, simprocAttr, hpq, hqp]; rfl)) (by first | (simp (disch := omega) only [go_sem, simprocAttr, hpq, hqp]; done) | (simp (disch := omega) only [go_sem, simprocAttr, hpq, hqp]; rfl)) (fun i hi hne => by simp (disch := omega) only [go_sem, simprocAttr, hne, hpq, hqp]; (repeat' split) <;> exact .ref _ _ _ _ _ ⟨by simp (disch := omega) only [go_sem, simprocAttr, hne, hpq, hqp], by simp (disch := omega) only [go_sem, simprocAttr, hne, hpq, hqp]⟩) (by (repeat' first | refine ab_nil ?_ | exact ab_obOf (ids := [11, 900]) rfl rfl (Nat.le_of_ble_eq_true rfl) | refine ab_hole ?_ | refine ab_row ?_ | refine ab_dead ?_ | refine ab_self ?_ | refine ab_self_fam ?_ | refine ab_fam (by dsimp only; omega) (by dsimp only; omega) (by omega) (by omega) (Nat.le_of_ble_eq_true rfl) ?_); done) rfl rfl rfl) ?_
   repeat' first | refine pw_step rfl ?_ | refine pw_ret ?_ | refine pw_region (fun s => (Nat.beq 11 s).or ((Nat.beq 37 s).or (Nat.beq 63 s))) hmix ?_ | (refine wpG_split rfl rfl (fun hc => ?_) (fun hc => ?_) <;> try simp only [hcL] at hc) | (refine pw_cond _ rfl rfl (fun hc => ?_) (fun hc => ?_) <;> (try simp only [hcL] at hc) <;> try omega) | simp (disch := omega) only [go_sem, simprocAttr, hbk, hp, hq, gf, hpq, hqp, roomy] | apply And.intro | omega | decide +kernel
   ·refine ⟨k + 1, ?_, eF [(fid 1 p, 38), (fid 1 q, 64)] [] _ _ _ (by refine ⟨?_, ?_⟩ <;> (repeat' first | exact fmn | refine fmc ⟨(by first | rfl | (simp (disch := omega) only [go_sem, simprocAttr, inL]; first | done | omega | (congr 1; done))), ?_⟩); done) ?_, ?_⟩
    ·omega
    ·repeat' first | exact fmn | refine fmc ⟨?_, ?_⟩
     all_goals refine ⟨_, (by first | rfl | (simp (disch := omega) only [go_sem, simprocAttr, hsu, hpq, hqp, List.take_length, List.length_append, List.length_cons, List.length_nil, hc]; done) | (simp (disch := omega) only [go_sem, simprocAttr, hsu, hpq, hqp, List.take_length, List.length_append, List.length_cons, List.length_nil, hc]; rfl)), fun i hi => ?_⟩
     all_goals dsimp only at hi ⊢
     all_goals rcases Decidable.em (i = p) with rfl | hi0
     all_goals rcases Decidable.em (i = q) with rfl | hi1
     all_goals try (exfalso; omega)
     all_goals try (simp (disch := omega) only [go_sem, simprocAttr, hsu, hpq, hqp, List.take_length, List.length_append, List.length_cons, List.length_nil, hc, fid_lit, lit_fid]; done)
     all_goals try (simp (disch := omega) only [go_sem, simprocAttr, hsu, hpq, hqp, List.take_length, List.length_append, List.length_cons, List.length_nil, hc, hi0, fid_lit, lit_fid]; done)
     all_goals try (simp (disch := omega) only [go_sem, simprocAttr, hsu, hpq, hqp, List.take_length, List.length_append, List.length_cons, List.length_nil, hc, hi1, fid_lit, lit_fid]; done)
     all_goals try (simp (disch := omega) only [go_sem, simprocAttr, hsu, hpq, hqp, List.take_length, List.length_append, List.length_cons, List.length_nil, hc, hi0, hi1, fid_lit, lit_fid]; done)
    ·omega
   ·refine ⟨k + 1, ?_, eF [(fid 1 p, 38), (fid 1 q, 901)] [] _ _ _ (by refine ⟨?_, ?_⟩ <;> (repeat' first | exact fmn | refine fmc ⟨(by first | rfl | (simp (disch := omega) only [go_sem, simprocAttr, inL]; first | done | omega | (congr 1; done))), ?_⟩); done) ?_, ?_⟩
    ·omega
    ·repeat' first | exact fmn | refine fmc ⟨?_, ?_⟩
     all_goals refine ⟨_, (by first | rfl | (simp (disch := omega) only [go_sem, simprocAttr, hsu, hpq, hqp, List.take_length, List.length_append, List.length_cons, List.length_nil, hc]; done) | (simp (disch := omega) only [go_sem, simprocAttr, hsu, hpq, hqp, List.take_length, List.length_append, List.length_cons, List.length_nil, hc]; rfl)), fun i hi => ?_⟩
     all_goals dsimp only at hi ⊢
     all_goals rcases Decidable.em (i = p) with rfl | hi0
     all_goals rcases Decidable.em (i = q) with rfl | hi1
     all_goals try (exfalso; omega)
     all_goals try (simp (disch := omega) only [go_sem, simprocAttr, hsu, hpq, hqp, List.take_length, List.length_append, List.length_cons, List.length_nil, hc, fid_lit, lit_fid]; done)
     all_goals try (simp (disch := omega) only [go_sem, simprocAttr, hsu, hpq, hqp, List.take_length, List.length_append, List.length_cons, List.length_nil, hc, hi0, fid_lit, lit_fid]; done)
     all_goals try (simp (disch := omega) only [go_sem, simprocAttr, hsu, hpq, hqp, List.take_length, List.length_append, List.length_cons, List.length_nil, hc, hi1, fid_lit, lit_fid]; done)
     all_goals try (simp (disch := omega) only [go_sem, simprocAttr, hsu, hpq, hqp, List.take_length, List.length_append, List.length_cons, List.length_nil, hc, hi0, hi1, fid_lit, lit_fid]; done)
    ·omega
  ·repeat' first | refine pw_step rfl ?_ | refine wR ?_ | (refine wpG_split rfl rfl (fun hc => ?_) (fun hc => ?_) <;> try simp only [hcL] at hc) | (refine pw_cond _ rfl rfl (fun hc => ?_) (fun hc => ?_) <;> (try simp only [hcL] at hc) <;> try omega) | simp (disch := omega) only [go_sem, simprocAttr] | apply And.intro | omega | decide +kernel
   have : k = l.length := by omega
   subst this
   refine pw_ent _ (entF_iff.1 (eF [] [] [(2, .ref 11 1 0 n n)] [⟨1, 11, 4, n, stepsD l f l.length⟩] [] (by refine ⟨?_, ?_⟩ <;> (repeat' first | exact fmn | refine fmc ⟨(by first | rfl | (simp (disch := omega) only [go_sem, simprocAttr, inL]; first | done | omega | (congr 1; done))), ?_⟩); done) ?_)) ?_
   ·repeat' first | exact fmn | refine fmc ⟨?_, ?_⟩
    all_goals refine ⟨_, (by first | rfl | (simp (disch := omega) only [go_sem, simprocAttr]; done) | (simp (disch := omega) only [go_sem, simprocAttr]; rfl)), fun i hi => ?_⟩
    all_goals dsimp only at hi ⊢
    all_goals try (exfalso; omega)
    all_goals try (simp (disch := omega) only [go_sem, simprocAttr, fid_lit, lit_fid]; done)
   ·refine pw_ent _ (ent_famRow _ _ _ _ ⟨nodup_of rfl, nodup_of rfl, (by (repeat' first | exact fmn | refine fmc ⟨⟨Nat.le_of_ble_eq_true rfl, Nat.le_of_ble_eq_true rfl, by dsimp only; omega⟩, ?_⟩); done)⟩ rfl [11] rfl rfl rfl rfl) ?_
    repeat' first | refine pw_step rfl ?_ | refine pw_ret ?_ | refine wR ?_ | (refine wpG_split rfl rfl (fun hc => ?_) (fun hc => ?_) <;> try simp only [hcL] at hc) | (refine pw_cond _ rfl rfl (fun hc => ?_) (fun hc => ?_) <;> (try simp only [hcL] at hc) <;> try omega) | simp (disch := omega) only [go_sem, simprocAttr] | apply And.intro | omega | decide +kernel
    exact ret_ref (o := 11) rfl rfl (by simp) (List.take_of_length_le (by simp))
end Go.Proofs.Ythbcmebhpabpnaa.Sx
namespace Go.Proofs.Ythbcmebhpabpnaa.Sx
open Go Go.PS Go.Proofs

abbrev Way := Int × Int × Stp × Bool
abbrev wayD (w : Way) : D := .ag [.int w.1, .int w.2.1, .int w.2.2.1.1, .int w.2.2.1.2.1, .int w.2.2.1.2.2.1, .bool w.2.2.1.2.2.2, .bool w.2.2.2]
def way0 : Way := (0, 0, (0, 0, 0, false), false)
def wayN : Way := (-1152921504606846976, 0, (0, 0, 0, false), false)
def wayB : Way := (0, 0, (0, 0, 0, false), true)
abbrev LS := List Way × List Bool × List Int
def wAt (W : List Way) (v : Int) : Way := (W[v.toNat]?).getD wayN
def bAt (B : List Bool) (v : Int) : Bool := (B[v.toNat]?).getD true
def relax (v : Int) (σ : LS) (s : Stp) : LS :=
 if (wAt σ.1 s.1).1 < (wAt σ.1 v).1 + s.2.1 then
  (σ.1.set s.1.toNat ((wAt σ.1 v).1 + s.2.1, v, s, false), if bAt σ.2.1 s.1 then σ.2 else (σ.2.1.set s.1.toNat true, σ.2.2 ++ [s.1]))
 else σ
def inner (L : List Stp) (v : Int) (σ : LS) (i : Nat) : LS := (L.take i).foldl (relax v) (σ.1, σ.2.1.set v.toNat false, σ.2.2)
def visit (ST : Nat → List Stp) (σ : LS) (v : Int) : LS := inner (ST v.toNat) v σ (ST v.toNat).length
def midN (ST : Nat → List Stp) (σ : LS) (j : Nat) : LS := (σ.2.2.take j).foldl (visit ST) (σ.1, σ.2.1, [])
def iterL (ST : Nat → List Stp) (σ : LS) : Nat → LS
 | 0 => σ
 | k + 1 => midN ST (iterL ST σ k) (iterL ST σ k).2.2.length
theorem foldl_take {α β : Type} {f : β → α → β} {l : List α} {k : Nat} {x : α} (a : β) (h : l[k]? = some x) : (l.take (k + 1)).foldl f a = f ((l.take k).foldl f a) x := by
 rw [take_snoc h, List.foldl_append]; rfl
theorem inner_succ {L : List Stp} {v : Int} {σ : LS} {i : Nat} {s : Stp} (h : L[i]? = some s) : inner L v σ (i + 1) = relax v (inner L v σ i) s := foldl_take _ h
theorem mid_succ {ST : Nat → List Stp} {σ : LS} {j : Nat} {v : Int} (h : σ.2.2[j]? = some v) : midN ST σ (j + 1) = inner (ST v.toNat) v (midN ST σ j) (ST v.toNat).length := foldl_take _ h

def Good (n : Nat) (U : Int) (c : Nat) (σ : LS) : Prop :=
 σ.1.length = n ∧ σ.2.1.length = n ∧ (∀ x ∈ σ.2.2, 0 ≤ x ∧ x < (n : Int)) ∧ (∀ w ∈ σ.1, -1152921504606846976 ≤ w.1 ∧ w.1 ≤ U) ∧ σ.2.2.length ≤ σ.2.1.count true + c
def GoodS (n : Nat) (v : Int) (L : List Stp) : Prop := ∀ s ∈ L, 0 ≤ s.1 ∧ s.1 < (n : Int) ∧ s.1 ≠ v ∧ -16777216 ≤ s.2.1 ∧ s.2.1 ≤ 16777216
theorem cnt_false (l : List Bool) : ∀ v, l.count true ≤ (l.set v false).count true + 1 := by
 induction l with
 | nil => intro v; simp
 | cons b l ih =>
  intro v
  cases v with
  | zero => cases b <;> simp
  | succ v => have := ih v; cases b <;> simp <;> omega
theorem cnt_true (l : List Bool) : ∀ v, l[v]? = some false → (l.set v true).count true = l.count true + 1 := by
 induction l with
 | nil => intro v h; simp at h
 | cons b l ih =>
  intro v h
  cases v with
  | zero => simp at h; subst h; simp
  | succ v => have := ih v (by simpa using h); cases b <;> simp <;> omega
theorem wAt_get {W : List Way} {v : Int} {n : Nat} (hW : W.length = n) (h1 : 0 ≤ v) (h2 : v < (n : Int)) : W[v.toNat]? = some (wAt W v) := by
 obtain ⟨x, hx⟩ := get_some (show v.toNat < W.length by omega)
 rw [wAt, hx]; rfl
theorem bAt_get {W : List Bool} {v : Int} {n : Nat} (hW : W.length = n) (h1 : 0 ≤ v) (h2 : v < (n : Int)) : W[v.toNat]? = some (bAt W v) := by
 obtain ⟨x, hx⟩ := get_some (show v.toNat < W.length by omega)
 rw [bAt, hx]; rfl
theorem wAt_set {W : List Way} {u v : Int} {x : Way} (h1 : 0 ≤ u) (h2 : 0 ≤ v) (h3 : v.toNat < W.length) : wAt (W.set v.toNat x) u = if u = v then x else wAt W u := by
 rw [wAt, List.getElem?_set]
 by_cases h : u = v
 ·subst h; rw [if_pos rfl, if_pos h3, if_pos rfl]; rfl
 ·rw [if_neg (by omega), if_neg h]; rfl
theorem relax_good {n c : Nat} {U v : Int} {σ : LS} {s : Stp} (h : Good n (U + 16777216) c σ) (hv : (wAt σ.1 v).1 ≤ U) (h0 : 0 ≤ v) (hs : 0 ≤ s.1 ∧ s.1 < (n : Int) ∧ s.1 ≠ v ∧ -16777216 ≤ s.2.1 ∧ s.2.1 ≤ 16777216) :
  Good n (U + 16777216) c (relax v σ s) ∧ (wAt (relax v σ s).1 v).1 ≤ U := by
 obtain ⟨g1, g2, g3, g4, g5⟩ := h
 obtain ⟨s1, s2, s3, s4, s5⟩ := hs
 rw [relax]
 split
 ·rename_i hlt
  have hold := g4 _ (List.mem_of_getElem? (wAt_get g1 s1 s2))
  refine ⟨⟨by simp [g1], ?_, ?_, ?_, ?_⟩, ?_⟩
  ·split
   ·exact g2
   ·simp [g2]
  ·split
   ·exact g3
   ·intro x hx
    rcases List.mem_append.1 hx with hx | hx
    ·exact g3 x hx
    ·rw [List.mem_singleton.1 hx]; exact ⟨s1, s2⟩
  ·intro w hw
   rcases List.mem_or_eq_of_mem_set hw with hw | rfl
   ·exact g4 w hw
   ·dsimp only; omega
  ·split
   ·exact g5
   ·rename_i hb
    have hb : bAt σ.2.1 s.1 = false := by simpa using hb
    have := cnt_true σ.2.1 s.1.toNat (by rw [bAt_get g2 s1 s2, hb])
    dsimp only
    rw [List.length_append, this, List.length_singleton]; omega
  ·dsimp only
   rw [wAt_set h0 s1 (by omega), if_neg (by omega)]; exact hv
 ·exact ⟨⟨g1, g2, g3, g4, g5⟩, hv⟩
theorem good_mono {n c c' : Nat} {U U' : Int} {σ : LS} (h : Good n U c σ) (hU : U ≤ U') (hc : c ≤ c') : Good n U' c' σ := by
 obtain ⟨g1, g2, g3, g4, g5⟩ := h
 exact ⟨g1, g2, g3, fun w hw => by have := g4 w hw; omega, by omega⟩
theorem inner_good {n c : Nat} {U v : Int} {σ : LS} {L : List Stp} (h : Good n U c σ) (h0 : 0 ≤ v) (hvn : v < (n : Int)) (hL : GoodS n v L) :
  ∀ i, Good n (U + 16777216) (c + 1) (inner L v σ i) ∧ (wAt (inner L v σ i).1 v).1 ≤ U := by
 intro i
 induction i with
 | zero =>
  obtain ⟨g1, g2, g3, g4, g5⟩ := h
  have := cnt_false σ.2.1 v.toNat
  exact ⟨⟨g1, by simp [inner, g2], g3, fun w hw => by have := g4 w hw; omega, by simp only [inner, List.take_zero, List.foldl_nil]; omega⟩, (g4 _ (List.mem_of_getElem? (wAt_get g1 h0 hvn))).2⟩
 | succ i ih =>
  rcases Nat.lt_or_ge i L.length with hi | hi
  ·obtain ⟨s, hs⟩ := get_some hi
   rw [inner_succ hs]
   exact relax_good ih.1 ih.2 h0 (hL s (List.mem_of_getElem? hs))
  ·have : inner L v σ (i + 1) = inner L v σ i := by rw [inner, inner, List.take_of_length_le (by omega), List.take_of_length_le hi]
   rw [this]; exact ih
theorem mid_good {n c : Nat} {U : Int} {σ : LS} {ST : Nat → List Stp} (h : Good n U c σ) (hST : ∀ v : Nat, v < n → GoodS n v (ST v)) :
  ∀ j, j ≤ σ.2.2.length → Good n (U + 16777216 * j) j (midN ST σ j) := by
 intro j
 induction j with
 | zero => intro _; obtain ⟨g1, g2, g3, g4, g5⟩ := h; exact ⟨g1, g2, by simp [midN], fun w hw => by have := g4 w hw; omega, by simp [midN]⟩
 | succ j ih =>
  intro hj
  obtain ⟨v, hv⟩ := get_some (show j < σ.2.2.length by omega)
  have hvb := h.2.2.1 v (List.mem_of_getElem? hv)
  rw [mid_succ hv]
  refine good_mono (inner_good (ih (by omega)) hvb.1 hvb.2 (?_) _).1 (by omega) (Nat.le_refl _)
  have := hST v.toNat (by omega)
  rwa [show ((v.toNat : Nat) : Int) = v by omega] at this
theorem iter_good {n : Nat} {σ : LS} {ST : Nat → List Stp} (hn : n ≤ 2048) (h : Good n 0 σ.2.2.length σ) (hq : σ.2.2.length ≤ n) (hST : ∀ v : Nat, v < n → GoodS n v (ST v)) :
  ∀ k, k ≤ n + 1 → Good n (70437463654400 * k) (iterL ST σ k).2.2.length (iterL ST σ k) ∧ (iterL ST σ k).2.2.length ≤ n * (k + 1) := by
 intro k
 induction k with
 | zero => intro _; exact ⟨by simpa [iterL] using h, by simpa [iterL] using hq⟩
 | succ k ih =>
  intro hk
  obtain ⟨h1, h2⟩ := ih (by omega)
  have h3 := mid_good h1 hST (iterL ST σ k).2.2.length (Nat.le_refl _)
  have hqk : (iterL ST σ k).2.2.length ≤ 4198400 := by
   have : n * (k + 1) ≤ 2048 * 2050 := Nat.mul_le_mul hn (by omega)
   omega
  obtain ⟨g1, g2, g3, g4, g5⟩ := h3
  have hc : ((midN ST (iterL ST σ k) (iterL ST σ k).2.2.length).2.1).count true ≤ n := by rw [← g2]; exact List.count_le_length
  refine ⟨⟨g1, g2, g3, fun w hw => ?_, by simp only [iterL]; omega⟩, ?_⟩
  ·have := g4 w hw; omega
  ·simp only [iterL]
   have : n * (k + 1 + 1) = n * (k + 1) + n := by rw [Nat.mul_succ]
   omega
def startW (n : Nat) (st : List Int) (j : Nat) : List Way := (st.take j).foldl (fun W v => W.set v.toNat wayB) (List.replicate n wayN)
theorem startW_succ {n : Nat} {st : List Int} {j : Nat} {v : Int} (h : st[j]? = some v) : startW n st (j + 1) = (startW n st j).set v.toNat wayB := foldl_take _ h
theorem startW_len (n : Nat) (st : List Int) : ∀ j, (startW n st j).length = n := by
 intro j
 rw [startW]
 generalize st.take j = l
 have : ∀ (l : List Int) (W : List Way), (l.foldl (fun W v => W.set v.toNat wayB) W).length = W.length := by
  intro l
  induction l with
  | nil => intro W; rfl
  | cons v l ih => intro W; rw [List.foldl_cons, ih]; simp
 rw [this]; simp
theorem startW_mem (n : Nat) (st : List Int) (j : Nat) : ∀ w ∈ startW n st j, w = wayN ∨ w = wayB := by
 rw [startW]
 generalize st.take j = l
 have : ∀ (l : List Int) (W : List Way), (∀ w ∈ W, w = wayN ∨ w = wayB) → ∀ w ∈ l.foldl (fun W v => W.set v.toNat wayB) W, w = wayN ∨ w = wayB := by
  intro l
  induction l with
  | nil => intro W h; exact h
  | cons v l ih =>
   intro W h
   rw [List.foldl_cons]
   refine ih _ fun w hw => ?_
   rcases List.mem_or_eq_of_mem_set hw with hw | rfl
   ·exact h w hw
   ·exact .inr rfl
 exact this l _ fun w hw => .inl (List.eq_of_mem_replicate hw)
def state0 (n : Nat) (st : List Int) : LS := (startW n st st.length, List.replicate n false, st)
theorem state0_good {n : Nat} {st : List Int} (hst : ∀ x ∈ st, 0 ≤ x ∧ x < (n : Int)) : Good n 0 (state0 n st).2.2.length (state0 n st) := by
 refine ⟨startW_len _ _ _, by simp [state0], hst, fun w hw => ?_, by omega⟩
 rcases startW_mem _ _ _ w hw with rfl | rfl <;> simp [wayN, wayB]
def endL (n : Nat) (ST : Nat → List Stp) (st : List Int) : Option Nat := firstN (fun k => (iterL ST (state0 n st) k).2.2.isEmpty) (n + 2)
def longestF (n : Nat) (ST : Nat → List Stp) (st : List Int) : Option (List Way) := (endL n ST st).map fun k => (iterL ST (state0 n st) k).1
end Go.Proofs.Ythbcmebhpabpnaa.Sx
