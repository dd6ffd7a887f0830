/- Balanced ranks: they are optimal. -/
import Derived.Test.YtcbcccphlhpajaaZc
namespace Go.Proofs.Ytcbcccphlhpajaa
open Go Go.PS Go.Proofs
/-- Regions below a number only. -/
theorem pw_regionB {P : Program} {B X : Nat → Prop} {w0 : W0} {n : Nat} {Q : Exit → St → Prop} {S : St} {id : Nat} (k : Nat) (_hid : Nat.blt id k = true) (own : Nat → Bool) (hmix : P.follows .mixedOrders = true) {ops : Array Oper} {draw : Bool}
    (h : wpRun P own ops.toList ops.toList S [] fun S' fs => okRegion n ops draw fs.reverse = true ∧ Q .normal S') : PW P B X w0 n (.region id ops draw) Q S := pw_region own hmix h

section mid
variable {n : Nat} {l : List Bd} {a b f f2 : List Int}
theorem mir_get {k : Nat} {c : Bd} : (l.map mirB)[k]? = some c ↔ ∃ d, l[k]? = some d ∧ c = mirB d := by
  rw [List.getElem?_map]
  cases l[k]? with
  | none => simp
  | some d => simp [eq_comm]
theorem mir_ok (hg : nOk ((n : Int), l) = true) : nOk ((n : Int), l.map mirB) = true := by
  simp only [nOk, Bool.and_eq_true, decide_eq_true_eq, Bool.not_eq_true', List.any_eq_false] at hg ⊢
  refine ⟨by simpa using hg.1, fun c hc => ?_⟩
  obtain ⟨d, hd, rfl⟩ := List.mem_map.1 hc
  have e : bdIn (n : Int) (mirB d) = bdIn (n : Int) d := decide_eq_decide.2
    ⟨fun ⟨h1, h2, h3, h4, h5, h6⟩ => ⟨h3, h4, h1, h2, fun h => h5 h.symm, h6⟩, fun ⟨h1, h2, h3, h4, h5, h6⟩ => ⟨h3, h4, h1, h2, fun h => h5 h.symm, h6⟩⟩
  rw [e]; exact hg.2 d hd
def negL (n : Nat) (r : List Int) : List Int := (List.range n).map fun v : Nat => -(at0 r v)
theorem negL_at {r : List Int} {v : Nat} (hv : v < n) : at0 (negL n r) v = -(at0 r v) := by
  rw [at0, Int.toNat_natCast]; simp [negL, hv]
theorem pot_neg (hb : BdsOk n l) {r : List Int} (h : PotB l (zeros l) (fun v => at0 r v)) : PotB (l.map mirB) (zeros (l.map mirB)) (fun v => at0 (negL n r) v) := by
  intro k c hk
  obtain ⟨d, hd, rfl⟩ := mir_get.1 hk
  have hbb := hb k d hd
  have h1 := (h k d hd).1
  refine ⟨?_, fun hf => by rw [at0_zeros] at hf; omega⟩
  dsimp only [mirB] at h1 ⊢
  rw [negL_at (by omega), negL_at (by omega)]
  omega
theorem pot_neg' (hb : BdsOk n l) {r : List Int} (h : PotB (l.map mirB) (zeros (l.map mirB)) (fun v => at0 r v)) : PotB l (zeros l) (fun v => at0 (negL n r) v) := by
  intro k d hd
  have hbb := hb k d hd
  have h1 := (h k (mirB d) (mir_get.2 ⟨d, hd, rfl⟩)).1
  refine ⟨?_, fun hf => by rw [at0_zeros] at hf; omega⟩
  dsimp only [mirB] at h1 ⊢
  rw [negL_at (by omega), negL_at (by omega)]
  omega
theorem gap_neg (hb : BdsOk n l) {r : List Int} {k : Nat} {d : Bd} (hd : l[k]? = some d) : gap (negL n r) d = gap r (mirB d) ∧ gap (negL n r) (mirB d) = gap r d := by
  have hbb := hb k d hd
  have e1 : at0 (negL n r) d.1 = -(at0 r d.1) := by
    have := negL_at (n := n) (r := r) (v := d.1.toNat) (by omega)
    rwa [show ((d.1.toNat : Nat) : Int) = d.1 by omega] at this
  have e2 : at0 (negL n r) d.2.1 = -(at0 r d.2.1) := by
    have := negL_at (n := n) (r := r) (v := d.2.1.toNat) (by omega)
    rwa [show ((d.2.1.toNat : Nat) : Int) = d.2.1 by omega] at this
  simp only [gap, mirB]
  rw [e1, e2]
  omega
theorem cost_neg (hb : BdsOk n l) (r : List Int) : costB l (negL n r) = costB (l.map mirB) r ∧ costB (l.map mirB) (negL n r) = costB l r := by
  simp only [costB, List.length_map]
  refine ⟨sumI_congr fun k hk => ?_, sumI_congr fun k hk => ?_⟩
  · obtain ⟨d, hd⟩ := get_some hk
    simp only [costAt, hd, mir_get.2 ⟨d, hd, rfl⟩, (gap_neg hb hd).1]
    rfl
  · obtain ⟨d, hd⟩ := get_some hk
    simp only [costAt, hd, mir_get.2 ⟨d, hd, rfl⟩, (gap_neg hb hd).2]
    rfl
theorem lowN_le {h : Nat → Int} : ∀ {k v : Nat}, v < k → lowN h k ≤ h v := by
  intro k
  induction k with
  | zero => intro v hv; omega
  | succ k ih =>
    intro v hv
    rw [lowN]
    rcases Nat.lt_or_ge v k with h1 | h1
    · have := ih h1
      split
      · rename_i hc; rcases hc with hc | hc
        · omega
        · omega
      · exact this
    · have : v = k := by omega
      subst this
      split <;> omega
theorem lowN_ge {h : Nat → Int} {m : Int} : ∀ {k : Nat}, 0 < k → (∀ v, v < k → m ≤ h v) → m ≤ lowN h k := by
  intro k
  induction k with
  | zero => intro h0; omega
  | succ k ih =>
    intro _ hh
    rw [lowN]
    have h1 := hh k (by omega)
    split
    · exact h1
    · rename_i hc
      exact ih (by omega) fun v hv => hh v (by omega)
theorem mid_at {v : Nat} (hv : v < a.length) : at0 (midF a b) v = halfAt a b (topN a b a.length) v - lowN (halfAt a b (topN a b a.length)) a.length := by
  rw [at0, Int.toNat_natCast]; simp [midF, hv]
theorem mid_ok (hg : nOk ((n : Int), l) = true) (ha : Best n l a f) (hb : Best n (l.map mirB) b f2) : feasF ((n : Int), l) (midF a b) = true ∧ costF ((n : Int), l) (midF a b) = costF ((n : Int), l) a := by
  obtain ⟨hbd, hn, hll⟩ := bdsOk_of hg
  obtain ⟨hbm, _, _⟩ := bdsOk_of (mir_ok hg)
  have pa := best_pot hbd ha
  have pb := best_pot hbm hb
  have px := pot_neg' hbd (potB_zeros pb)
  have py := pot_neg hbd (potB_zeros pa)
  obtain ⟨c1, c2⟩ := cost_neg hbd b
  obtain ⟨c3, c4⟩ := cost_neg hbd a
  have h1 := (best_le hbd ha px).1
  have h2 := (best_le hbm hb py).1
  have hva := cost_tight hbd ha.fl (fun k => (ha.pos k).1) ha.dv pa
  have pt := tight_of_cost hbd ha.fl (fun k => (ha.pos k).1) ha.dv px (by omega)
  -- the middle
  have hfa : fromTo a 34359738368 := fun v => by have := best_bd hbd ha v; omega
  have hfb : fromTo b 34359738368 := fun v => by have := best_bd hbm hb v; omega
  have htop := topN_in hfa hfb a.length
  have hge := fun v (hv : v < a.length) => topN_ge (a := a) (b := b) hv
  generalize ht : topN a b a.length = t at htop hge
  have hmid : ∀ v : Nat, v < n → at0 (midF a b) v = (at0 a v + t - at0 b v) / 2 - lowN (halfAt a b t) a.length := fun v hv => by
    rw [mid_at (by rw [ha.rl]; exact hv), ht]; rfl
  have hlow : ∀ v : Nat, v < n → lowN (halfAt a b t) a.length ≤ (at0 a v + t - at0 b v) / 2 ∧ 0 ≤ lowN (halfAt a b t) a.length := fun v hv => by
    refine ⟨lowN_le (h := halfAt a b t) (by rw [ha.rl]; exact hv), lowN_ge (by rw [ha.rl]; omega) fun u hu => ?_⟩
    have := hge u hu
    have := hfa u
    rw [halfAt]; omega
  have pm : PotB l f (fun v => at0 (midF a b) v) := by
    intro k d hk
    have hbb := hbd k d hk
    obtain ⟨a1, a2⟩ := pa k d hk
    obtain ⟨x1, x2⟩ := pt k d hk
    dsimp only at a1 a2 x1 x2 ⊢
    rw [negL_at (by omega), negL_at (by omega)] at x1 x2
    rw [hmid _ (by omega), hmid _ (by omega)]
    exact ⟨by omega, fun hf => by have := a2 hf; have := x2 hf; omega⟩
  have hml : (midF a b).length = n := by simp [midF, ha.rl]
  have hfe : feasF ((n : Int), l) (midF a b) = true := feas_ok hg hml (fun v hv => by
    rw [hmid v hv]
    have := hlow v hv
    have := hge v (by rw [ha.rl]; exact hv)
    have := hfa v
    have := hfb v
    omega) (potB_zeros pm)
  refine ⟨hfe, ?_⟩
  have hr1 : rkOk ((n : Int), l) (midF a b) = true := by simp only [feasF, Bool.and_eq_true] at hfe; exact hfe.1
  have hfa2 := best_feas hg ha
  have hr2 : rkOk ((n : Int), l) a = true := by simp only [feasF, Bool.and_eq_true] at hfa2; exact hfa2.1
  rw [cost_is hr1, cost_is hr2, cost_tight hbd ha.fl (fun k => (ha.pos k).1) ha.dv pm, hva]
end mid
end Go.Proofs.Ytcbcccphlhpajaa
