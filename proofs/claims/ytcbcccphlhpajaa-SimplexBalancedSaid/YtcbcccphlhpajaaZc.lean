/- Solve: it finds the least optimal ranks with a certificate. -/
import Derived.Test.YtcbcccphlhpajaaZ
import Derived.Test.YtcbcccphlhpajaaR
namespace Go.Proofs.Ytcbcccphlhpajaa
open Go Go.PS Go.Proofs

theorem at0_zeros (l : List Bd) (k : Nat) : at0 (zeros l) k = 0 := by
  simp only [at0, zeros, List.getElem?_replicate]; split <;> rfl
theorem need_div {l : List Bd} (v : Int) : sumI (needAt l v) l.length = -(divF l (zeros l) v) := by
  rw [divF, ← sumI_neg]
  refine sumI_congr fun k hk => ?_
  obtain ⟨b, hb⟩ := get_some hk
  have hz : (zeros l)[k]? = some 0 := by simp [zeros, hk]
  simp only [needAt, addAt, hb, hz]
  split <;> split <;> omega
theorem potB_zeros {l : List Bd} {f : List Int} {p : Nat → Int} (h : PotB l f p) : PotB l (zeros l) p := fun k b hk =>
  ⟨(h k b hk).1, fun hf => by rw [at0_zeros] at hf; omega⟩
theorem potB_nil {l : List Bd} {p : Nat → Int} : PotB l [] p ↔ PotB l (zeros l) p :=
  ⟨potB_zeros, fun h k b hk => ⟨(h k b hk).1, fun hf => by simp [at0] at hf⟩⟩
theorem at0_longs {W : List Way} {n v : Nat} (hl : W.length = n) (hv : v < n) : at0 (longs W) v = lgW W v := by
  have := wAt_get (v := (v : Int)) hl (by omega) (by omega)
  rw [Int.toNat_natCast] at this
  rw [at0, longs, Int.toNat_natCast, List.getElem?_map, this]; rfl
/-- Least optimal ranks with a certificate. -/
structure Best (n : Nat) (l : List Bd) (r f : List Int) : Prop where
  fl : f.length = l.length
  rl : r.length = n
  pos : ∀ k : Nat, 0 ≤ at0 f k ∧ at0 f k ≤ 1099511627776
  dv : ∀ v : Nat, v < n → divF l f v = 0
  opt : ∀ v : Nat, v < n → Opt (stepsL l f) (AllS n) v (at0 r v)
theorem solve_best {n : Nat} {l : List Bd} (hg : nOk ((n : Int), l) = true) (hp : ∃ p, PotB l (zeros l) p) : ∃ r f, SolveOk ((n : Int), l) r f ∧ Best n l r f := by
  obtain ⟨hb, hn, hl⟩ := bdsOk_of hg
  obtain ⟨p, hp⟩ := hp
  have hp0 := (pot_iff (f := zeros l) hb).2 hp
  obtain ⟨W0, hW0, _, _⟩ := long_of_pot hb hn hp0
  have hnd : ∀ v : Nat, v < n → at0 (needRow l n l.length) v = sumI (needAt l v) l.length := fun v hv => by
    rw [at0, Int.toNat_natCast, needRow_get hv]; rfl
  have hbd : ∀ v : Nat, v < n → -32768000 ≤ at0 (needRow l n l.length) v ∧ at0 (needRow l n l.length) v ≤ 32768000 := fun v hv => by
    have := need_bd (l := l) (v := (v : Int)) (m := l.length) (Nat.le_refl _) (fun k b hk => by have := hb k b hk; omega)
    rw [hnd v hv]; omega
  have hps : posSum (needRow l n l.length) n ≤ 32768000 * (n : Int) := by
    have := (sumI_le (f := fun v : Nat => max 0 (at0 (needRow l n l.length) v)) (c := 32768000) (m := n) (fun v hv => by have := hbd v hv; omega) n (Nat.le_refl _)).2
    exact this
  have hcert : Cert n l 67108864000 (zeros l) (needRow l n l.length) :=
    ⟨by simp [zeros], needRow_len _ _ _, fun k => by rw [at0_zeros]; exact Int.le_refl _, ⟨p, hp0⟩, fun v hv => by rw [hnd v hv, need_div], fun v hv => by have := hbd v hv; omega, fun k => by rw [at0_zeros]; omega⟩
  obtain ⟨f, nd, hc, hC, hnn⟩ := cert_ok hb hn (by decide) ((posSum (needRow l n l.length) n).toNat + 1) (zeros l) (needRow l n l.length) hcert (by have := posSum_nonneg (needRow l n l.length) n; omega)
  obtain ⟨q, hq⟩ := hC.pot
  obtain ⟨W, hW, hWl, hopt⟩ := long_of_pot hb hn hq
  refine ⟨longs W, f, ?_, hC.fl, by simp [longs, hWl], fun k => ?_, fun v hv => ?_, fun v hv => by rw [at0_longs hWl hv]; exact hopt v hv⟩
  · exact ⟨n, rfl, by simp [longs, hWl], hC.fl, Solve_ok n l f _ W0 W hg hW0 hc hC.fl hW hWl⟩
  · have := hC.pos k
    have := hC.cap k
    have := posSum_nonneg nd n
    omega
  · -- what is needed adds up to nothing
    have hA := set_sum hb hC.fl (fun _ => true) l.length (Nat.le_refl _)
    have hz : sumI (cutAt l f (fun _ => true)) l.length = 0 := by
      rw [sumI_congr (h := fun _ => 0) fun k hk => by
        obtain ⟨b, hbk⟩ := get_some hk
        simp only [cutAt, hbk, if_true]; omega, sumI_zero]
    simp only [if_true] at hA
    rw [hz] at hA
    have hle : ∀ v : Nat, v < n → divF l f v ≤ 0 := fun v hv => by have := hC.dv v hv; have := hnn v hv; omega
    rcases Int.lt_or_le (divF l f v) 0 with h1 | h1
    · have := sumI_lt (g := fun v : Nat => sumI (addAt l f v) l.length) (h := fun _ => 0) (n := n) (i := v) hle hv h1
      rw [sumI_zero] at this; omega
    · have := hle v hv; omega
theorem solve_none {n : Nat} {l : List Bd} (hg : nOk ((n : Int), l) = true) (hp : ¬ ∃ p, PotB l (zeros l) p) : SolveNo ((n : Int), l) 9 := by
  obtain ⟨hb, hn, hl⟩ := bdsOk_of hg
  refine Solve_cycle n l hg ?_
  cases h : longestF n (stepsL l (zeros l)) (allI n) with
  | none => rfl
  | some W => exact absurd ⟨_, (pot_iff hb).1 (pot_of_long hb h)⟩ hp
section best
variable {n : Nat} {l : List Bd} {r f : List Int}
theorem best_pot (hb : BdsOk n l) (h : Best n l r f) : PotB l f (fun v => at0 r v) := by
  refine (pot_iff hb).1 fun v s hs => ?_
  have hv := steps_good hb v s hs
  obtain ⟨⟨j, hw⟩, _⟩ := h.opt v hv.1
  exact (h.opt s.1.toNat (by omega)).2 _ _ (.step j v _ s hw hs)
theorem best_bd (hb : BdsOk n l) (h : Best n l r f) (v : Nat) : 0 ≤ at0 r v ∧ at0 r v ≤ 16777216 * (n : Int) := by
  rcases Nat.lt_or_ge v n with hv | hv
  · exact opt_bd hb (h.opt v hv)
  · have : at0 r v = 0 := by rw [at0, Int.toNat_natCast, List.getElem?_eq_none (by rw [h.rl]; exact hv)]; rfl
    rw [this]; omega
theorem potB_at (hb : BdsOk n l) {f : List Int} (h : PotB l f (fun v => at0 r v)) {k : Nat} {b : Bd} (hk : l[k]? = some b) : b.2.2.1 ≤ gap r b ∧ (0 < at0 f k → gap r b ≤ b.2.2.1) := by
  have hbb := hb k b hk
  obtain ⟨h1, h2⟩ := h k b hk
  dsimp only at h1 h2
  rw [show ((b.1.toNat : Nat) : Int) = b.1 by omega, show ((b.2.1.toNat : Nat) : Int) = b.2.1 by omega] at h1 h2
  rw [gap]
  exact ⟨by omega, fun hf => by have := h2 hf; omega⟩
theorem rk_ok (hg : nOk ((n : Int), l) = true) (hl : r.length = n) (hr : ∀ v : Nat, v < n → -34359738368 ≤ at0 r v ∧ at0 r v ≤ 34359738368) : rkOk ((n : Int), l) r = true := by
  simp only [rkOk, Bool.and_eq_true, decide_eq_true_eq, Bool.not_eq_true', List.any_eq_false]
  refine ⟨⟨hg, by omega⟩, fun x hx => ?_⟩
  obtain ⟨k, hk⟩ := List.getElem?_of_mem hx
  have hkl := (List.getElem?_eq_some_iff.1 hk).1
  have := hr k (by omega)
  have e : at0 r k = x := by rw [at0, Int.toNat_natCast, hk]; rfl
  have e2 : rkIn x = true := by simp only [rkIn, decide_eq_true_eq]; omega
  rw [e2]; decide
theorem feas_ok (hg : nOk ((n : Int), l) = true) (hl : r.length = n) (hr : ∀ v : Nat, v < n → -34359738368 ≤ at0 r v ∧ at0 r v ≤ 34359738368) (hp : PotB l (zeros l) (fun v => at0 r v)) : feasF ((n : Int), l) r = true := by
  obtain ⟨hb, hn, hll⟩ := bdsOk_of hg
  simp only [feasF, Bool.and_eq_true, Bool.not_eq_true', List.any_eq_false, decide_eq_true_eq]
  refine ⟨rk_ok hg hl hr, fun b hbm => ?_⟩
  obtain ⟨k, hk⟩ := List.getElem?_of_mem hbm
  have := (potB_at hb hp hk).1
  omega
theorem feas_pot (h : feasF ((n : Int), l) r = true) : nOk ((n : Int), l) = true ∧ r.length = n ∧ PotB l (zeros l) (fun v => at0 r v) := by
  have hr : rkOk ((n : Int), l) r = true := by simp only [feasF, Bool.and_eq_true] at h; exact h.1
  obtain ⟨hg, hlen, _⟩ := rkOk_in hr
  obtain ⟨hb, hn, hll⟩ := bdsOk_of hg
  simp only [feasF, Bool.and_eq_true, Bool.not_eq_true', List.any_eq_false, decide_eq_true_eq] at h
  refine ⟨hg, by dsimp only at hlen; omega, fun k b hk => ⟨?_, fun hf => by rw [at0_zeros] at hf; omega⟩⟩
  have hbb := hb k b hk
  have := h.2 b (List.mem_of_getElem? hk)
  rw [gap] at this
  dsimp only
  rw [show ((b.1.toNat : Nat) : Int) = b.1 by omega, show ((b.2.1.toNat : Nat) : Int) = b.2.1 by omega]
  omega
theorem best_feas (hg : nOk ((n : Int), l) = true) (h : Best n l r f) : feasF ((n : Int), l) r = true := by
  obtain ⟨hb, hn, hll⟩ := bdsOk_of hg
  exact feas_ok hg h.rl (fun v hv => by have := best_bd hb h v; omega) (potB_zeros (best_pot hb h))
theorem best_check (hg : nOk ((n : Int), l) = true) (h : Best n l r f) : checkF ((n : Int), l) r f = true := by
  obtain ⟨hb, hn, hll⟩ := bdsOk_of hg
  simp only [checkF, Bool.and_eq_true, decide_eq_true_eq, Bool.not_eq_true', List.any_eq_false]
  refine ⟨⟨⟨best_feas hg h, h.fl⟩, allN_iff.2 fun k hk => ?_⟩, fun x hx => ?_⟩
  · obtain ⟨b, hbk⟩ := get_some hk
    obtain ⟨x, hx⟩ := get_some (show k < f.length by rw [h.fl]; exact hk)
    have e : at0 f k = x := by rw [at0, Int.toNat_natCast, hx]; rfl
    have h1 := h.pos k
    obtain ⟨h2, h3⟩ := potB_at hb (best_pot hb h) hbk
    rw [e] at h1 h3
    simp only [okAt, hbk, hx, decide_eq_true_eq]
    exact ⟨h1.1, h1.2, fun hx0 => by have := h3 hx0; omega⟩
  · simp only [Int.toNat_natCast] at hx
    obtain ⟨v, hv, rfl⟩ := List.mem_map.1 hx
    have := h.dv v (List.mem_range.1 hv)
    rw [divF] at this
    rw [this]; simp
theorem best_least (hb : BdsOk n l) (h : Best n l r f) : leastF ((n : Int), l) f = (r, true) := by
  obtain ⟨r', h1, h2, h3⟩ := least_ok (f := f) hb ((pot_iff hb).2 (best_pot hb h))
  rw [h1]
  congr 1
  refine List.ext_getElem? fun v => ?_
  rcases Nat.lt_or_ge v n with hv | hv
  · rw [at0_at (by omega), at0_at (by rw [h.rl]; exact hv), opt_eq (h3 v hv) (h.opt v hv)]
  · rw [List.getElem?_eq_none (by omega), List.getElem?_eq_none (by rw [h.rl]; exact hv)]
/-! ### Costs. -/
def costB (l : List Bd) (r : List Int) : Int := sumI (costAt r l) l.length
theorem cost_is (h : rkOk ((n : Int), l) r = true) : costF ((n : Int), l) r = costB l r := by rw [costF, if_pos h]; rfl
/-- Numbers that balance count for the ranks as the weights do. -/
theorem cost_dual (hb : BdsOk n l) (hfl : f.length = l.length) (hdv : ∀ v : Nat, v < n → divF l f v = 0) (x : Nat → Int) :
    sumI (fun k => match l[k]? with | some b => (at0 f k - b.2.2.2) * (x b.2.1.toNat - x b.1.toNat) | none => 0) l.length = 0 := by
  have key : ∀ m, m ≤ l.length → sumI (fun v => x v * sumI (addAt l f v) m) n = sumI (fun k => match l[k]? with | some b => (at0 f k - b.2.2.2) * (x b.2.1.toNat - x b.1.toNat) | none => 0) m := by
    intro m
    induction m with
    | zero => intro _; simp only [sumI]; rw [sumI_congr (h := fun _ => 0) (fun v _ => Int.mul_zero _), sumI_zero]
    | succ m ih =>
      intro hm
      obtain ⟨b, hbm⟩ := get_some (show m < l.length by omega)
      obtain ⟨y, hy⟩ := get_some (show m < f.length by omega)
      have hbb := hb m b hbm
      have hy0 : at0 f m = y := by rw [at0, Int.toNat_natCast, hy]; rfl
      rw [sumI_succ, ← ih (by omega), hbm]
      dsimp only
      have e : ∀ v, v < n → x v * sumI (addAt l f v) (m + 1) = x v * sumI (addAt l f v) m + ((if b.2.1.toNat = v then x b.2.1.toNat * (y - b.2.2.2) else 0) + -(if b.1.toNat = v then x b.1.toNat * (y - b.2.2.2) else 0)) := by
        intro v hv
        have ea : addAt l f v m = (if b.2.1 = (v : Int) then y - b.2.2.2 else 0) - (if b.1 = (v : Int) then y - b.2.2.2 else 0) := by simp [addAt, hbm, hy]
        rw [sumI_succ, ea, Int.mul_add]
        congr 1
        by_cases c1 : b.2.1.toNat = v
        · have c2 : ¬ b.1.toNat = v := by omega
          rw [if_pos c1, if_neg c2, if_pos (show b.2.1 = (v : Int) by omega), if_neg (show ¬ b.1 = (v : Int) by omega), c1]; simp
        · rw [if_neg c1, if_neg (show ¬ b.2.1 = (v : Int) by omega)]
          by_cases c2 : b.1.toNat = v
          · rw [if_pos c2, if_pos (show b.1 = (v : Int) by omega), c2, Int.zero_sub, Int.mul_neg]; omega
          · rw [if_neg c2, if_neg (show ¬ b.1 = (v : Int) by omega)]; simp
      rw [sumI_congr e, sumI_add, sumI_add, sumI_neg, sumI_delta, sumI_delta, if_pos (show b.2.1.toNat < n by omega), if_pos (show b.1.toNat < n by omega), hy0, Int.mul_comm (y - b.2.2.2), Int.sub_mul]
      omega
  rw [← key l.length (Nat.le_refl _), sumI_congr (h := fun _ => 0) (fun v hv => by rw [show sumI (addAt l f v) l.length = 0 from hdv v hv]; exact Int.mul_zero _), sumI_zero]
def certAt (l : List Bd) (f : List Int) (k : Nat) : Int := match l[k]? with | some b => at0 f k * b.2.2.1 | none => 0
/-- The value of a certificate. -/
def certV (l : List Bd) (f : List Int) : Int := sumI (certAt l f) l.length
theorem cost_cert (hb : BdsOk n l) (hfl : f.length = l.length) (hdv : ∀ v : Nat, v < n → divF l f v = 0) (x : List Int) :
    costB l x = sumI (fun k => match l[k]? with | some b => at0 f k * gap x b | none => 0) l.length := by
  have h := cost_dual hb hfl hdv (fun v => at0 x v)
  have e : ∀ k, k < l.length → (match l[k]? with | some b => (at0 f k - b.2.2.2) * ((fun v : Nat => at0 x v) b.2.1.toNat - (fun v : Nat => at0 x v) b.1.toNat) | none => 0) =
      (match l[k]? with | some b => at0 f k * gap x b | none => 0) + -(costAt x l k) := by
    intro k hk
    obtain ⟨b, hbk⟩ := get_some hk
    have hbb := hb k b hbk
    simp only [hbk, costAt]
    rw [show ((b.1.toNat : Nat) : Int) = b.1 by omega, show ((b.2.1.toNat : Nat) : Int) = b.2.1 by omega, Int.sub_mul, gap]
    omega
  rw [sumI_congr e, sumI_add, sumI_neg] at h
  rw [costB]; omega
theorem cost_ge (hb : BdsOk n l) (hfl : f.length = l.length) (hpos : ∀ k : Nat, 0 ≤ at0 f k) (hdv : ∀ v : Nat, v < n → divF l f v = 0) {x : List Int} (hx : PotB l (zeros l) (fun v => at0 x v)) : certV l f ≤ costB l x := by
  rw [cost_cert hb hfl hdv]
  refine sumI_mono fun k hk => ?_
  obtain ⟨b, hbk⟩ := get_some hk
  simp only [certAt, hbk]
  exact Int.mul_le_mul_of_nonneg_left (potB_at hb hx hbk).1 (hpos k)
theorem cost_tight (hb : BdsOk n l) (hfl : f.length = l.length) (hpos : ∀ k : Nat, 0 ≤ at0 f k) (hdv : ∀ v : Nat, v < n → divF l f v = 0) {x : List Int} (hx : PotB l f (fun v => at0 x v)) : costB l x = certV l f := by
  rw [cost_cert hb hfl hdv]
  refine sumI_congr fun k hk => ?_
  obtain ⟨b, hbk⟩ := get_some hk
  simp only [certAt, hbk]
  obtain ⟨h1, h2⟩ := potB_at hb hx hbk
  rcases Int.lt_or_le 0 (at0 f k) with h | h
  · have := h2 h
    rw [show gap x b = b.2.2.1 by omega]
  · have := hpos k
    rw [show at0 f k = 0 by omega]; simp
theorem tight_of_cost (hb : BdsOk n l) (hfl : f.length = l.length) (hpos : ∀ k : Nat, 0 ≤ at0 f k) (hdv : ∀ v : Nat, v < n → divF l f v = 0) {x : List Int} (hx : PotB l (zeros l) (fun v => at0 x v)) (hc : costB l x ≤ certV l f) : PotB l f (fun v => at0 x v) := by
  intro k b hk
  refine ⟨(hx k b hk).1, fun hf => Classical.byContradiction fun hno => ?_⟩
  have hkl := (List.getElem?_eq_some_iff.1 hk).1
  have hbb := hb k b hk
  rw [cost_cert hb hfl hdv] at hc
  have hlt := sumI_lt (g := certAt l f) (h := fun k => match l[k]? with | some b => at0 f k * gap x b | none => 0) (n := l.length) (i := k) (fun j hj => by
    obtain ⟨c, hcj⟩ := get_some hj
    simp only [certAt, hcj]
    exact Int.mul_le_mul_of_nonneg_left (potB_at hb hx hcj).1 (hpos j)) hkl (by
    simp only [certAt, hk]
    refine Int.mul_lt_mul_of_pos_left ?_ hf
    have h1 := (hx k b hk).1
    dsimp only at h1 hno
    rw [show ((b.1.toNat : Nat) : Int) = b.1 by omega, show ((b.2.1.toNat : Nat) : Int) = b.2.1 by omega] at h1 hno
    rw [gap]; omega)
  rw [certV] at hc
  omega
/-- Ranks from 0 on with the same cost are not less. -/
theorem best_le (hb : BdsOk n l) (h : Best n l r f) {x : List Int} (hx : PotB l (zeros l) (fun v => at0 x v)) :
    costB l r ≤ costB l x ∧ (costB l x = costB l r → (∀ v : Nat, v < n → 0 ≤ at0 x v) → ∀ v : Nat, v < n → at0 r v ≤ at0 x v) := by
  have e1 := cost_tight hb h.fl (fun k => (h.pos k).1) h.dv (best_pot hb h)
  have e2 := cost_ge hb h.fl (fun k => (h.pos k).1) h.dv hx
  refine ⟨by omega, fun hc h0 v hv => ?_⟩
  have hp := (pot_iff hb).2 (tight_of_cost hb h.fl (fun k => (h.pos k).1) h.dv hx (by omega))
  obtain ⟨⟨j, hw⟩, _⟩ := h.opt v hv
  have := wk_le (lo := 0) hp (fun u hu => h0 u (mem_allI.1 hu)) hw
  omega
end best
end Go.Proofs.Ytcbcccphlhpajaa
