/- Solve: it finds the least optimal ranks with a certificate. -/
import Derived.Test.YthbcmebhpabpnaaSxU
import Derived.Test.YthbcmebhpabpnaaSxL
import Derived.Test.YthbcmebhpabpnaaM
set_option linter.unusedSimpArgs false
set_option linter.unusedVariables false
namespace Go.Proofs.Ythbcmebhpabpnaa.Sx
open Go Go.PS Go.Proofs

theorem at0_zeros (l : List Bd) (k : Nat) : at0 (zeros l) k = 0 := by
 simp only [at0, zeros, List.getElem?_replicate]; split <;> rfl
theorem need_div {l : List Bd} (v : Int) : sumI (needAt l v) l.length = -(divF l (zeros l) v) := by
 rw [divF, ← sumI_neg]
 refine sumI_congr fun k hk => ?_
 obtain ⟨b, hb⟩ := get_some hk
 have hz : (zeros l)[k]? = some 0 := by simp [zeros, hk]
 simp only [needAt, addAt, hb, hz]
 split <;> split <;> omega
theorem potB_zeros {l : List Bd} {f : List Int} {p : Nat → Int} (h : PotB l f p) : PotB l (zeros l) p := fun k b hk =>
 ⟨(h k b hk).1, fun hf => by rw [at0_zeros] at hf; omega⟩
theorem potB_nil {l : List Bd} {p : Nat → Int} : PotB l [] p ↔ PotB l (zeros l) p :=
 ⟨potB_zeros, fun h k b hk => ⟨(h k b hk).1, fun hf => by simp [at0] at hf⟩⟩
theorem at0_longs {W : List Way} {n v : Nat} (hl : W.length = n) (hv : v < n) : at0 (longs W) v = lgW W v := by
 have := wAt_get (v := (v : Int)) hl (by omega) (by omega)
 rw [Int.toNat_natCast] at this
 rw [at0, longs, Int.toNat_natCast, List.getElem?_map, this]; rfl
structure Best (n : Nat) (l : List Bd) (r f : List Int) : Prop where
 fl : f.length = l.length
 rl : r.length = n
 pos : ∀ k : Nat, 0 ≤ at0 f k ∧ at0 f k ≤ 1099511627776
 dv : ∀ v : Nat, v < n → divF l f v = 0
 opt : ∀ v : Nat, v < n → Opt (stepsL l f) (AllS n) v (at0 r v)
theorem solve_best {n : Nat} {l : List Bd} (hg : nOk ((n : Int), l) = true) (hp : ∃ p, PotB l (zeros l) p) : ∃ r f, SolveOk ((n : Int), l) r f ∧ Best n l r f := by
 obtain ⟨hb, hn, hl⟩ := bdsOk_of hg
 obtain ⟨p, hp⟩ := hp
 have hp0 := (pot_iff (f := zeros l) hb).2 hp
 obtain ⟨W0, hW0, _, _⟩ := long_of_pot hb hn hp0
 have hnd : ∀ v : Nat, v < n → at0 (needRow l n l.length) v = sumI (needAt l v) l.length := fun v hv => by
  rw [at0, Int.toNat_natCast, needRow_get hv]; rfl
 have hbd : ∀ v : Nat, v < n → -32768000 ≤ at0 (needRow l n l.length) v ∧ at0 (needRow l n l.length) v ≤ 32768000 := fun v hv => by
  have := need_bd (l := l) (v := (v : Int)) (m := l.length) (Nat.le_refl _) (fun k b hk => by have := hb k b hk; omega)
  rw [hnd v hv]; omega
 have hps : posSum (needRow l n l.length) n ≤ 32768000 * (n : Int) := by
  have := (sumI_le (f := fun v : Nat => max 0 (at0 (needRow l n l.length) v)) (c := 32768000) (m := n) (fun v hv => by have := hbd v hv; omega) n (Nat.le_refl _)).2
  exact this
 have hcert : Cert n l 67108864000 (zeros l) (needRow l n l.length) :=
  ⟨by simp [zeros], needRow_len _ _ _, fun k => by rw [at0_zeros]; exact Int.le_refl _, ⟨p, hp0⟩, fun v hv => by rw [hnd v hv, need_div], fun v hv => by have := hbd v hv; omega, fun k => by rw [at0_zeros]; omega⟩
 obtain ⟨f, nd, hc, hC, hnn⟩ := cert_ok hb hn (by decide) ((posSum (needRow l n l.length) n).toNat + 1) (zeros l) (needRow l n l.length) hcert (by have := posSum_nonneg (needRow l n l.length) n; omega)
 obtain ⟨q, hq⟩ := hC.pot
 obtain ⟨W, hW, hWl, hopt⟩ := long_of_pot hb hn hq
 refine ⟨longs W, f, ?_, hC.fl, by simp [longs, hWl], fun k => ?_, fun v hv => ?_, fun v hv => by rw [at0_longs hWl hv]; exact hopt v hv⟩
 ·exact ⟨n, rfl, by simp [longs, hWl], hC.fl, Solve_ok n l f _ W0 W hg hW0 hc hC.fl hW hWl⟩
 ·have := hC.pos k
  have := hC.cap k
  have := posSum_nonneg nd n
  omega
 · -- what is needed adds up to nothing
  have hA := set_sum hb hC.fl (fun _ => true) l.length (Nat.le_refl _)
  have hz : sumI (cutAt l f (fun _ => true)) l.length = 0 := by
   rw [sumI_congr (h := fun _ => 0) fun k hk => by
    obtain ⟨b, hbk⟩ := get_some hk
    simp only [cutAt, hbk, if_true]; omega, sumI_zero]
  simp only [if_true] at hA
  rw [hz] at hA
  have hle : ∀ v : Nat, v < n → divF l f v ≤ 0 := fun v hv => by have := hC.dv v hv; have := hnn v hv; omega
  rcases Int.lt_or_le (divF l f v) 0 with h1 | h1
  ·have := sumI_lt (g := fun v : Nat => sumI (addAt l f v) l.length) (h := fun _ => 0) (n := n) (i := v) hle hv h1
   rw [sumI_zero] at this; omega
  ·have := hle v hv; omega
section best
variable {n : Nat} {l : List Bd} {r f : List Int}
theorem best_pot (hb : BdsOk n l) (h : Best n l r f) : PotB l f (fun v => at0 r v) := by
 refine (pot_iff hb).1 fun v s hs => ?_
 have hv := steps_good hb v s hs
 obtain ⟨⟨j, hw⟩, _⟩ := h.opt v hv.1
 exact (h.opt s.1.toNat (by omega)).2 _ _ (.step j v _ s hw hs)
theorem best_bd (hb : BdsOk n l) (h : Best n l r f) (v : Nat) : 0 ≤ at0 r v ∧ at0 r v ≤ 16777216 * (n : Int) := by
 rcases Nat.lt_or_ge v n with hv | hv
 ·exact opt_bd hb (h.opt v hv)
 ·have : at0 r v = 0 := by rw [at0, Int.toNat_natCast, List.getElem?_eq_none (by rw [h.rl]; exact hv)]; rfl
  rw [this]; omega
theorem potB_at (hb : BdsOk n l) {f : List Int} (h : PotB l f (fun v => at0 r v)) {k : Nat} {b : Bd} (hk : l[k]? = some b) : b.2.2.1 ≤ gap r b ∧ (0 < at0 f k → gap r b ≤ b.2.2.1) := by
 have hbb := hb k b hk
 obtain ⟨h1, h2⟩ := h k b hk
 dsimp only at h1 h2
 rw [show ((b.1.toNat : Nat) : Int) = b.1 by omega, show ((b.2.1.toNat : Nat) : Int) = b.2.1 by omega] at h1 h2
 rw [gap]
 exact ⟨by omega, fun hf => by have := h2 hf; omega⟩
theorem rk_ok (hg : nOk ((n : Int), l) = true) (hl : r.length = n) (hr : ∀ v : Nat, v < n → -34359738368 ≤ at0 r v ∧ at0 r v ≤ 34359738368) : rkOk ((n : Int), l) r = true := by
 simp only [rkOk, Bool.and_eq_true, decide_eq_true_eq, Bool.not_eq_true', List.any_eq_false]
 refine ⟨⟨hg, by omega⟩, fun x hx => ?_⟩
 obtain ⟨k, hk⟩ := List.getElem?_of_mem hx
 have hkl := (List.getElem?_eq_some_iff.1 hk).1
 have := hr k (by omega)
 have e : at0 r k = x := by rw [at0, Int.toNat_natCast, hk]; rfl
 have e2 : rkIn x = true := by simp only [rkIn, decide_eq_true_eq]; omega
 rw [e2]; decide
theorem feas_ok (hg : nOk ((n : Int), l) = true) (hl : r.length = n) (hr : ∀ v : Nat, v < n → -34359738368 ≤ at0 r v ∧ at0 r v ≤ 34359738368) (hp : PotB l (zeros l) (fun v => at0 r v)) : feasF ((n : Int), l) r = true := by
 obtain ⟨hb, hn, hll⟩ := bdsOk_of hg
 simp only [feasF, Bool.and_eq_true, Bool.not_eq_true', List.any_eq_false, decide_eq_true_eq]
 refine ⟨rk_ok hg hl hr, fun b hbm => ?_⟩
 obtain ⟨k, hk⟩ := List.getElem?_of_mem hbm
 have := (potB_at hb hp hk).1
 omega
theorem feas_pot (h : feasF ((n : Int), l) r = true) : nOk ((n : Int), l) = true ∧ r.length = n ∧ PotB l (zeros l) (fun v => at0 r v) := by
 have hr : rkOk ((n : Int), l) r = true := by simp only [feasF, Bool.and_eq_true] at h; exact h.1
 obtain ⟨hg, hlen, _⟩ := rkOk_in hr
 obtain ⟨hb, hn, hll⟩ := bdsOk_of hg
 simp only [feasF, Bool.and_eq_true, Bool.not_eq_true', List.any_eq_false, decide_eq_true_eq] at h
 refine ⟨hg, by dsimp only at hlen; omega, fun k b hk => ⟨?_, fun hf => by rw [at0_zeros] at hf; omega⟩⟩
 have hbb := hb k b hk
 have := h.2 b (List.mem_of_getElem? hk)
 rw [gap] at this
 dsimp only
 rw [show ((b.1.toNat : Nat) : Int) = b.1 by omega, show ((b.2.1.toNat : Nat) : Int) = b.2.1 by omega]
 omega
theorem best_feas (hg : nOk ((n : Int), l) = true) (h : Best n l r f) : feasF ((n : Int), l) r = true := by
 obtain ⟨hb, hn, hll⟩ := bdsOk_of hg
 exact feas_ok hg h.rl (fun v hv => by have := best_bd hb h v; omega) (potB_zeros (best_pot hb h))
/-! ### Costs. -/
def costB (l : List Bd) (r : List Int) : Int := sumI (costAt r l) l.length
theorem cost_is (h : rkOk ((n : Int), l) r = true) : costF ((n : Int), l) r = costB l r := by rw [costF, if_pos h]; rfl
theorem cost_dual (hb : BdsOk n l) (hfl : f.length = l.length) (hdv : ∀ v : Nat, v < n → divF l f v = 0) (x : Nat → Int) :
  sumI (fun k => match l[k]? with | some b => (at0 f k - b.2.2.2) * (x b.2.1.toNat - x b.1.toNat) | none => 0) l.length = 0 := by
 have key : ∀ m, m ≤ l.length → sumI (fun v => x v * sumI (addAt l f v) m) n = sumI (fun k => match l[k]? with | some b => (at0 f k - b.2.2.2) * (x b.2.1.toNat - x b.1.toNat) | none => 0) m := by
  intro m
  induction m with
  | zero => intro _; simp only [sumI]; rw [sumI_congr (h := fun _ => 0) (fun v _ => Int.mul_zero _), sumI_zero]
  | succ m ih =>
   intro hm
   obtain ⟨b, hbm⟩ := get_some (show m < l.length by omega)
   obtain ⟨y, hy⟩ := get_some (show m < f.length by omega)
   have hbb := hb m b hbm
   have hy0 : at0 f m = y := by rw [at0, Int.toNat_natCast, hy]; rfl
   rw [sumI_succ, ← ih (by omega), hbm]
   dsimp only
   have e : ∀ v, v < n → x v * sumI (addAt l f v) (m + 1) = x v * sumI (addAt l f v) m + ((if b.2.1.toNat = v then x b.2.1.toNat * (y - b.2.2.2) else 0) + -(if b.1.toNat = v then x b.1.toNat * (y - b.2.2.2) else 0)) := by
    intro v hv
    have ea : addAt l f v m = (if b.2.1 = (v : Int) then y - b.2.2.2 else 0) - (if b.1 = (v : Int) then y - b.2.2.2 else 0) := by simp [addAt, hbm, hy]
    rw [sumI_succ, ea, Int.mul_add]
    congr 1
    by_cases c1 : b.2.1.toNat = v
    ·have c2 : ¬ b.1.toNat = v := by omega
     rw [if_pos c1, if_neg c2, if_pos (show b.2.1 = (v : Int) by omega), if_neg (show ¬ b.1 = (v : Int) by omega), c1]; simp
    ·rw [if_neg c1, if_neg (show ¬ b.2.1 = (v : Int) by omega)]
     by_cases c2 : b.1.toNat = v
     ·rw [if_pos c2, if_pos (show b.1 = (v : Int) by omega), c2, Int.zero_sub, Int.mul_neg]; omega
     ·rw [if_neg c2, if_neg (show ¬ b.1 = (v : Int) by omega)]; simp
   rw [sumI_congr e, sumI_add, sumI_add, sumI_neg, sumI_delta, sumI_delta, if_pos (show b.2.1.toNat < n by omega), if_pos (show b.1.toNat < n by omega), hy0, Int.mul_comm (y - b.2.2.2), Int.sub_mul]
   omega
 rw [← key l.length (Nat.le_refl _), sumI_congr (h := fun _ => 0) (fun v hv => by rw [show sumI (addAt l f v) l.length = 0 from hdv v hv]; exact Int.mul_zero _), sumI_zero]
def certAt (l : List Bd) (f : List Int) (k : Nat) : Int := match l[k]? with | some b => at0 f k * b.2.2.1 | none => 0
def certV (l : List Bd) (f : List Int) : Int := sumI (certAt l f) l.length
theorem cost_cert (hb : BdsOk n l) (hfl : f.length = l.length) (hdv : ∀ v : Nat, v < n → divF l f v = 0) (x : List Int) :
  costB l x = sumI (fun k => match l[k]? with | some b => at0 f k * gap x b | none => 0) l.length := by
 have h := cost_dual hb hfl hdv (fun v => at0 x v)
 have e : ∀ k, k < l.length → (match l[k]? with | some b => (at0 f k - b.2.2.2) * ((fun v : Nat => at0 x v) b.2.1.toNat - (fun v : Nat => at0 x v) b.1.toNat) | none => 0) =
   (match l[k]? with | some b => at0 f k * gap x b | none => 0) + -(costAt x l k) := by
  intro k hk
  obtain ⟨b, hbk⟩ := get_some hk
  have hbb := hb k b hbk
  simp only [hbk, costAt]
  rw [show ((b.1.toNat : Nat) : Int) = b.1 by omega, show ((b.2.1.toNat : Nat) : Int) = b.2.1 by omega, Int.sub_mul, gap]
  omega
 rw [sumI_congr e, sumI_add, sumI_neg] at h
 rw [costB]; omega
theorem cost_ge (hb : BdsOk n l) (hfl : f.length = l.length) (hpos : ∀ k : Nat, 0 ≤ at0 f k) (hdv : ∀ v : Nat, v < n → divF l f v = 0) {x : List Int} (hx : PotB l (zeros l) (fun v => at0 x v)) : certV l f ≤ costB l x := by
 rw [cost_cert hb hfl hdv]
 refine sumI_mono fun k hk => ?_
 obtain ⟨b, hbk⟩ := get_some hk
 simp only [certAt, hbk]
 exact Int.mul_le_mul_of_nonneg_left (potB_at hb hx hbk).1 (hpos k)
theorem cost_tight (hb : BdsOk n l) (hfl : f.length = l.length) (hpos : ∀ k : Nat, 0 ≤ at0 f k) (hdv : ∀ v : Nat, v < n → divF l f v = 0) {x : List Int} (hx : PotB l f (fun v => at0 x v)) : costB l x = certV l f := by
 rw [cost_cert hb hfl hdv]
 refine sumI_congr fun k hk => ?_
 obtain ⟨b, hbk⟩ := get_some hk
 simp only [certAt, hbk]
 obtain ⟨h1, h2⟩ := potB_at hb hx hbk
 rcases Int.lt_or_le 0 (at0 f k) with h | h
 ·have := h2 h
  rw [show gap x b = b.2.2.1 by omega]
 ·have := hpos k
  rw [show at0 f k = 0 by omega]; simp
theorem tight_of_cost (hb : BdsOk n l) (hfl : f.length = l.length) (hpos : ∀ k : Nat, 0 ≤ at0 f k) (hdv : ∀ v : Nat, v < n → divF l f v = 0) {x : List Int} (hx : PotB l (zeros l) (fun v => at0 x v)) (hc : costB l x ≤ certV l f) : PotB l f (fun v => at0 x v) := by
 intro k b hk
 refine ⟨(hx k b hk).1, fun hf => Classical.byContradiction fun hno => ?_⟩
 have hkl := (List.getElem?_eq_some_iff.1 hk).1
 have hbb := hb k b hk
 rw [cost_cert hb hfl hdv] at hc
 have hlt := sumI_lt (g := certAt l f) (h := fun k => match l[k]? with | some b => at0 f k * gap x b | none => 0) (n := l.length) (i := k) (fun j hj => by
  obtain ⟨c, hcj⟩ := get_some hj
  simp only [certAt, hcj]
  exact Int.mul_le_mul_of_nonneg_left (potB_at hb hx hcj).1 (hpos j)) hkl (by
  simp only [certAt, hk]
  refine Int.mul_lt_mul_of_pos_left ?_ hf
  have h1 := (hx k b hk).1
  dsimp only at h1 hno
  rw [show ((b.1.toNat : Nat) : Int) = b.1 by omega, show ((b.2.1.toNat : Nat) : Int) = b.2.1 by omega] at h1 hno
  rw [gap]; omega)
 rw [certV] at hc
 omega
theorem best_le (hb : BdsOk n l) (h : Best n l r f) {x : List Int} (hx : PotB l (zeros l) (fun v => at0 x v)) :
  costB l r ≤ costB l x ∧ (costB l x = costB l r → (∀ v : Nat, v < n → 0 ≤ at0 x v) → ∀ v : Nat, v < n → at0 r v ≤ at0 x v) := by
 have e1 := cost_tight hb h.fl (fun k => (h.pos k).1) h.dv (best_pot hb h)
 have e2 := cost_ge hb h.fl (fun k => (h.pos k).1) h.dv hx
 refine ⟨by omega, fun hc h0 v hv => ?_⟩
 have hp := (pot_iff hb).2 (tight_of_cost hb h.fl (fun k => (h.pos k).1) h.dv hx (by omega))
 obtain ⟨⟨j, hw⟩, _⟩ := h.opt v hv
 have := wk_le (lo := 0) hp (fun u hu => h0 u (mem_allI.1 hu)) hw
 omega
end best
end Go.Proofs.Ythbcmebhpabpnaa.Sx
namespace Go.Proofs.Ythbcmebhpabpnaa.Sx
open Go Go.PS Go.Proofs
theorem pw_regionB {P : Program} {B X : Nat → Prop} {w0 : W0} {n : Nat} {Q : Exit → St → Prop} {S : St} {id : Nat} (k : Nat) (_hid : Nat.blt id k = true) (own : Nat → Bool) (hmix : P.follows .mixedOrders = true) {ops : Array Oper} {draw : Bool}
  (h : wpRun P own ops.toList ops.toList S [] fun S' fs => okRegion n ops draw fs.reverse = true ∧ Q .normal S') : PW P B X w0 n (.region id ops draw) Q S := pw_region own hmix h

section mid
variable {n : Nat} {l : List Bd} {a b f f2 : List Int}
theorem mir_get {k : Nat} {c : Bd} : (l.map mirB)[k]? = some c ↔ ∃ d, l[k]? = some d ∧ c = mirB d := by
 rw [List.getElem?_map]
 cases l[k]? with
 | none => simp
 | some d => simp [eq_comm]
theorem mir_ok (hg : nOk ((n : Int), l) = true) : nOk ((n : Int), l.map mirB) = true := by
 simp only [nOk, Bool.and_eq_true, decide_eq_true_eq, Bool.not_eq_true', List.any_eq_false] at hg ⊢
 refine ⟨by simpa using hg.1, fun c hc => ?_⟩
 obtain ⟨d, hd, rfl⟩ := List.mem_map.1 hc
 have e : bdIn (n : Int) (mirB d) = bdIn (n : Int) d := decide_eq_decide.2
  ⟨fun ⟨h1, h2, h3, h4, h5, h6⟩ => ⟨h3, h4, h1, h2, fun h => h5 h.symm, h6⟩, fun ⟨h1, h2, h3, h4, h5, h6⟩ => ⟨h3, h4, h1, h2, fun h => h5 h.symm, h6⟩⟩
 rw [e]; exact hg.2 d hd
def negL (n : Nat) (r : List Int) : List Int := (List.range n).map fun v : Nat => -(at0 r v)
theorem negL_at {r : List Int} {v : Nat} (hv : v < n) : at0 (negL n r) v = -(at0 r v) := by
 rw [at0, Int.toNat_natCast]; simp [negL, hv]
theorem pot_neg (hb : BdsOk n l) {r : List Int} (h : PotB l (zeros l) (fun v => at0 r v)) : PotB (l.map mirB) (zeros (l.map mirB)) (fun v => at0 (negL n r) v) := by
 intro k c hk
 obtain ⟨d, hd, rfl⟩ := mir_get.1 hk
 have hbb := hb k d hd
 have h1 := (h k d hd).1
 refine ⟨?_, fun hf => by rw [at0_zeros] at hf; omega⟩
 dsimp only [mirB] at h1 ⊢
 rw [negL_at (by omega), negL_at (by omega)]
 omega
theorem pot_neg' (hb : BdsOk n l) {r : List Int} (h : PotB (l.map mirB) (zeros (l.map mirB)) (fun v => at0 r v)) : PotB l (zeros l) (fun v => at0 (negL n r) v) := by
 intro k d hd
 have hbb := hb k d hd
 have h1 := (h k (mirB d) (mir_get.2 ⟨d, hd, rfl⟩)).1
 refine ⟨?_, fun hf => by rw [at0_zeros] at hf; omega⟩
 dsimp only [mirB] at h1 ⊢
 rw [negL_at (by omega), negL_at (by omega)]
 omega
theorem gap_neg (hb : BdsOk n l) {r : List Int} {k : Nat} {d : Bd} (hd : l[k]? = some d) : gap (negL n r) d = gap r (mirB d) ∧ gap (negL n r) (mirB d) = gap r d := by
 have hbb := hb k d hd
 have e1 : at0 (negL n r) d.1 = -(at0 r d.1) := by
  have := negL_at (n := n) (r := r) (v := d.1.toNat) (by omega)
  rwa [show ((d.1.toNat : Nat) : Int) = d.1 by omega] at this
 have e2 : at0 (negL n r) d.2.1 = -(at0 r d.2.1) := by
  have := negL_at (n := n) (r := r) (v := d.2.1.toNat) (by omega)
  rwa [show ((d.2.1.toNat : Nat) : Int) = d.2.1 by omega] at this
 simp only [gap, mirB]
 rw [e1, e2]
 omega
theorem cost_neg (hb : BdsOk n l) (r : List Int) : costB l (negL n r) = costB (l.map mirB) r ∧ costB (l.map mirB) (negL n r) = costB l r := by
 simp only [costB, List.length_map]
 refine ⟨sumI_congr fun k hk => ?_, sumI_congr fun k hk => ?_⟩
 ·obtain ⟨d, hd⟩ := get_some hk
  simp only [costAt, hd, mir_get.2 ⟨d, hd, rfl⟩, (gap_neg hb hd).1]
  rfl
 ·obtain ⟨d, hd⟩ := get_some hk
  simp only [costAt, hd, mir_get.2 ⟨d, hd, rfl⟩, (gap_neg hb hd).2]
  rfl
theorem lowN_le {h : Nat → Int} : ∀ {k v : Nat}, v < k → lowN h k ≤ h v := by
 intro k
 induction k with
 | zero => intro v hv; omega
 | succ k ih =>
  intro v hv
  rw [lowN]
  rcases Nat.lt_or_ge v k with h1 | h1
  ·have := ih h1
   split
   ·rename_i hc; rcases hc with hc | hc
    ·omega
    ·omega
   ·exact this
  ·have : v = k := by omega
   subst this
   split <;> omega
theorem lowN_ge {h : Nat → Int} {m : Int} : ∀ {k : Nat}, 0 < k → (∀ v, v < k → m ≤ h v) → m ≤ lowN h k := by
 intro k
 induction k with
 | zero => intro h0; omega
 | succ k ih =>
  intro _ hh
  rw [lowN]
  have h1 := hh k (by omega)
  split
  ·exact h1
  ·rename_i hc
   exact ih (by omega) fun v hv => hh v (by omega)
theorem mid_at {v : Nat} (hv : v < a.length) : at0 (midF a b) v = halfAt a b (topN a b a.length) v - lowN (halfAt a b (topN a b a.length)) a.length := by
 rw [at0, Int.toNat_natCast]; simp [midF, hv]
theorem mid_ok (hg : nOk ((n : Int), l) = true) (ha : Best n l a f) (hb : Best n (l.map mirB) b f2) : feasF ((n : Int), l) (midF a b) = true ∧ costF ((n : Int), l) (midF a b) = costF ((n : Int), l) a := by
 obtain ⟨hbd, hn, hll⟩ := bdsOk_of hg
 obtain ⟨hbm, _, _⟩ := bdsOk_of (mir_ok hg)
 have pa := best_pot hbd ha
 have pb := best_pot hbm hb
 have px := pot_neg' hbd (potB_zeros pb)
 have py := pot_neg hbd (potB_zeros pa)
 obtain ⟨c1, c2⟩ := cost_neg hbd b
 obtain ⟨c3, c4⟩ := cost_neg hbd a
 have h1 := (best_le hbd ha px).1
 have h2 := (best_le hbm hb py).1
 have hva := cost_tight hbd ha.fl (fun k => (ha.pos k).1) ha.dv pa
 have pt := tight_of_cost hbd ha.fl (fun k => (ha.pos k).1) ha.dv px (by omega)
 -- the middle
 have hfa : fromTo a 34359738368 := fun v => by have := best_bd hbd ha v; omega
 have hfb : fromTo b 34359738368 := fun v => by have := best_bd hbm hb v; omega
 have htop := topN_in hfa hfb a.length
 have hge := fun v (hv : v < a.length) => topN_ge (a := a) (b := b) hv
 generalize ht : topN a b a.length = t at htop hge
 have hmid : ∀ v : Nat, v < n → at0 (midF a b) v = (at0 a v + t - at0 b v) / 2 - lowN (halfAt a b t) a.length := fun v hv => by
  rw [mid_at (by rw [ha.rl]; exact hv), ht]; rfl
 have hlow : ∀ v : Nat, v < n → lowN (halfAt a b t) a.length ≤ (at0 a v + t - at0 b v) / 2 ∧ 0 ≤ lowN (halfAt a b t) a.length := fun v hv => by
  refine ⟨lowN_le (h := halfAt a b t) (by rw [ha.rl]; exact hv), lowN_ge (by rw [ha.rl]; omega) fun u hu => ?_⟩
  have := hge u hu
  have := hfa u
  rw [halfAt]; omega
 have pm : PotB l f (fun v => at0 (midF a b) v) := by
  intro k d hk
  have hbb := hbd k d hk
  obtain ⟨a1, a2⟩ := pa k d hk
  obtain ⟨x1, x2⟩ := pt k d hk
  dsimp only at a1 a2 x1 x2 ⊢
  rw [negL_at (by omega), negL_at (by omega)] at x1 x2
  rw [hmid _ (by omega), hmid _ (by omega)]
  exact ⟨by omega, fun hf => by have := a2 hf; have := x2 hf; omega⟩
 have hml : (midF a b).length = n := by simp [midF, ha.rl]
 have hfe : feasF ((n : Int), l) (midF a b) = true := feas_ok hg hml (fun v hv => by
  rw [hmid v hv]
  have := hlow v hv
  have := hge v (by rw [ha.rl]; exact hv)
  have := hfa v
  have := hfb v
  omega) (potB_zeros pm)
 refine ⟨hfe, ?_⟩
 have hr1 : rkOk ((n : Int), l) (midF a b) = true := by simp only [feasF, Bool.and_eq_true] at hfe; exact hfe.1
 have hfa2 := best_feas hg ha
 have hr2 : rkOk ((n : Int), l) a = true := by simp only [feasF, Bool.and_eq_true] at hfa2; exact hfa2.1
 rw [cost_is hr1, cost_is hr2, cost_tight hbd ha.fl (fun k => (ha.pos k).1) ha.dv pm, hva]
end mid
end Go.Proofs.Ythbcmebhpabpnaa.Sx
namespace Go.Proofs.Ythbcmebhpabpnaa
open Go Go.PS Go.Proofs
set_option maxRecDepth 100000
attribute [local irreducible] wpRun wpG CallsTo CallsM

theorem vertices_spec (a : Lv) (h : tot a.2.1 ≤ 1000000) : CallsTo Try.prog 23 [lvD a] (.int (tot a.2.1)) := by
 obtain ⟨n, ls, ar, cs⟩ := a
 dsimp only at h
 refine callsTo_of Try.func23 rfl (by decide +kernel) (Nat.le_of_ble_eq_true rfl) ?_
 intro hat B X w0
 have h1 := at_len2 0 1 hat rfl rfl
 rw [List.length_map] at h1
 dsimp only at h1
 repeat' first | refine pw_step rfl ?_ | refine pw_ret ?_ | refine wR ?_ | (refine wpG_split rfl rfl (fun hc => ?_) (fun hc => ?_) <;> try simp only [hcL] at hc) | (refine pw_cond _ rfl rfl (fun hc => ?_) (fun hc => ?_) <;> (try simp only [hcL] at hc) <;> try omega) | simp (disch := omega) only [go_sem, simprocAttr] | apply And.intro | omega | decide +kernel
 refine pw_loopI (κ := Nat) (fun (k : Nat) => k ≤ ls.length) (fun (k : Nat) => [(3, .int (tot (ls.take k))), (7, .d (listsD ls)), (8, .int ls.length), (9, .int k)]) (fun (k : Nat) => []) (fun (k : Nat) => ls.length - k) 0 ?_ ?_ ?_
 ·exact Nat.zero_le _
 ·exact eL [] _ _ (by refine ⟨?_, ?_⟩ <;> (repeat' first | exact fmn | refine fmc ⟨(by first | rfl | (simp (disch := omega) only [go_sem, simprocAttr, inL]; first | done | omega | (congr 1; done))), ?_⟩); done)
 ·intro k hk
  rcases Nat.lt_or_ge k ls.length with hlt | hge
  ·obtain ⟨y, hy⟩ := get_some hlt
   have e := tot_snoc hy
   have h2 := tot_take_le ls (k + 1)
   have e2 : ((tot (ls.take k) : Nat) : Int) + y.length = (tot (ls.take (k + 1)) : Nat) := by omega
   repeat' first | refine pw_step rfl ?_ | refine pw_ret ?_ | refine wR ?_ | (refine wpG_split rfl rfl (fun hc => ?_) (fun hc => ?_) <;> try simp only [hcL] at hc) | (refine pw_cond _ rfl rfl (fun hc => ?_) (fun hc => ?_) <;> (try simp only [hcL] at hc) <;> try omega) | simp (disch := omega) only [go_sem, simprocAttr, hy, e2] | apply And.intro | omega | decide +kernel
   refine ⟨k + 1, ?_, eL [] _ _ (by refine ⟨?_, ?_⟩ <;> (repeat' first | exact fmn | refine fmc ⟨(by first | rfl | (simp (disch := omega) only [go_sem, simprocAttr, inL]; first | done | omega | (congr 1; done))), ?_⟩); done), ?_⟩
   ·omega
   ·omega
  ·have hk : k = ls.length := by omega
   subst hk
   rw [List.take_length]
   repeat' first | refine pw_step rfl ?_ | refine pw_ret ?_ | refine wR ?_ | (refine wpG_split rfl rfl (fun hc => ?_) (fun hc => ?_) <;> try simp only [hcL] at hc) | (refine pw_cond _ rfl rfl (fun hc => ?_) (fun hc => ?_) <;> (try simp only [hcL] at hc) <;> try omega) | simp (disch := omega) only [go_sem, simprocAttr] | apply And.intro | omega | decide +kernel
   exact rfl
theorem rvertices_spec (a : Lv) (h : tot a.2.1 ≤ 1000000) : CallsTo Try.prog 27 [lvD a] (.int (tot a.2.1)) := by
 obtain ⟨n, ls, ar, cs⟩ := a
 dsimp only at h
 refine callsTo_of Try.func27 rfl (by decide +kernel) (Nat.le_of_ble_eq_true rfl) ?_
 intro hat B X w0
 have h1 := at_len2 0 1 hat rfl rfl
 rw [List.length_map] at h1
 dsimp only at h1
 repeat' first | refine pw_step rfl ?_ | refine pw_ret ?_ | refine wR ?_ | (refine wpG_split rfl rfl (fun hc => ?_) (fun hc => ?_) <;> try simp only [hcL] at hc) | (refine pw_cond _ rfl rfl (fun hc => ?_) (fun hc => ?_) <;> (try simp only [hcL] at hc) <;> try omega) | simp (disch := omega) only [go_sem, simprocAttr] | apply And.intro | omega | decide +kernel
 refine pw_loopI (κ := Nat) (fun (k : Nat) => k ≤ ls.length) (fun (k : Nat) => [(1, .ptr 1 0 0 0), (3, .int (tot (ls.take k))), (4, .int k)]) (fun (k : Nat) => [(1, .cells [.int n, .d (listsD ls), .d (arcsD ar), .d (listsD cs)])]) (fun (k : Nat) => ls.length - k) 0 ?_ ?_ ?_
 ·exact Nat.zero_le _
 ·exact eL [] _ _ (by refine ⟨?_, ?_⟩ <;> (repeat' first | exact fmn | refine fmc ⟨(by first | rfl | (simp (disch := omega) only [go_sem, simprocAttr, inL]; first | done | omega | (congr 1; done))), ?_⟩); done)
 ·intro k hk
  rcases Nat.lt_or_ge k ls.length with hlt | hge
  ·obtain ⟨y, hy⟩ := get_some hlt
   have e := tot_snoc hy
   have h2 := tot_take_le ls (k + 1)
   have e2 : ((tot (ls.take k) : Nat) : Int) + y.length = (tot (ls.take (k + 1)) : Nat) := by omega
   repeat' first | refine pw_step rfl ?_ | refine pw_ret ?_ | refine wR ?_ | (refine wpG_split rfl rfl (fun hc => ?_) (fun hc => ?_) <;> try simp only [hcL] at hc) | (refine pw_cond _ rfl rfl (fun hc => ?_) (fun hc => ?_) <;> (try simp only [hcL] at hc) <;> try omega) | simp (disch := omega) only [go_sem, simprocAttr, hy, e2] | apply And.intro | omega | decide +kernel
   refine ⟨k + 1, ?_, eL [] _ _ (by refine ⟨?_, ?_⟩ <;> (repeat' first | exact fmn | refine fmc ⟨(by first | rfl | (simp (disch := omega) only [go_sem, simprocAttr, inL]; first | done | omega | (congr 1; done))), ?_⟩); done), ?_⟩
   ·omega
   ·omega
  ·have hk : k = ls.length := by omega
   subst hk
   rw [List.take_length]
   repeat' first | refine pw_step rfl ?_ | refine pw_ret ?_ | refine wR ?_ | (refine wpG_split rfl rfl (fun hc => ?_) (fun hc => ?_) <;> try simp only [hcL] at hc) | (refine pw_cond _ rfl rfl (fun hc => ?_) (fun hc => ?_) <;> (try simp only [hcL] at hc) <;> try omega) | simp (disch := omega) only [go_sem, simprocAttr] | apply And.intro | omega | decide +kernel
   exact rfl
def wgtF (n : Int) (x : Arc) : Int := if n ≤ x.1 ∧ n ≤ x.2 then 8 else if n ≤ x.1 ∨ n ≤ x.2 then 2 else 1
theorem weight_spec (a : Lv) (x : Arc) : CallsTo Try.prog 24 [lvD a, arcD x] (.int (wgtF a.1 x)) := by
 obtain ⟨n, ls, ar, cs⟩ := a
 refine callsTo_of Try.func24 rfl (by decide +kernel) (Nat.le_of_ble_eq_true rfl) ?_
 intro hat B X w0
 repeat' first | refine pw_step rfl ?_ | refine pw_ret ?_ | refine wR ?_ | (refine wpG_split rfl rfl (fun hc => ?_) (fun hc => ?_) <;> try simp only [hcL] at hc) | (refine pw_cond _ rfl rfl (fun hc => ?_) (fun hc => ?_) <;> (try simp only [hcL] at hc) <;> try omega) | simp (disch := omega) only [go_sem, simprocAttr] | apply And.intro | omega | decide +kernel
 all_goals
  refine int_some ?_
  rw [wgtF]
  repeat' split
  all_goals omega
theorem rweight_spec (a : Lv) (x : Arc) : CallsTo Try.prog 28 [lvD a, arcD x] (.int (wgtF a.1 x)) := by
 obtain ⟨n, ls, ar, cs⟩ := a
 refine callsTo_of Try.func28 rfl (by decide +kernel) (Nat.le_of_ble_eq_true rfl) ?_
 intro hat B X w0
 repeat' first | refine pw_step rfl ?_ | refine pw_ret ?_ | refine wR ?_ | (refine wpG_split rfl rfl (fun hc => ?_) (fun hc => ?_) <;> try simp only [hcL] at hc) | (refine pw_cond _ rfl rfl (fun hc => ?_) (fun hc => ?_) <;> (try simp only [hcL] at hc) <;> try omega) | simp (disch := omega) only [go_sem, simprocAttr] | apply And.intro | omega | decide +kernel
 all_goals
  refine int_some ?_
  rw [wgtF]
  repeat' split
  all_goals omega
def widF (ws : List Int) (v : Int) : Int := if v < ws.length then at0 ws v else 0
theorem width_spec (ws : List Int) (v : Int) (h0 : 0 ≤ v) : CallsTo Try.prog 36 [intsD ws, .int v] (.int (widF ws v)) := by
 refine callsTo_of Try.func36 rfl (by decide +kernel) (Nat.le_of_ble_eq_true rfl) ?_
 intro hat B X w0
 have h1 := at_len 0 hat rfl
 rw [List.length_map] at h1
 by_cases c : v < ws.length
 ·have hg := at0_get h0 c
  obtain ⟨n, rfl⟩ : ∃ n : Nat, v = n := ⟨v.toNat, by omega⟩
  rw [Int.toNat_natCast] at hg
  repeat' first | refine pw_step rfl ?_ | refine pw_ret ?_ | refine wR ?_ | (refine wpG_split rfl rfl (fun hc => ?_) (fun hc => ?_) <;> try simp only [hcL] at hc) | (refine pw_cond _ rfl rfl (fun hc => ?_) (fun hc => ?_) <;> (try simp only [hcL] at hc) <;> try omega) | simp (disch := omega) only [go_sem, simprocAttr, hg] | apply And.intro | omega | decide +kernel
  refine int_some ?_
  rw [widF, if_pos c]
 ·repeat' first | refine pw_step rfl ?_ | refine pw_ret ?_ | refine wR ?_ | (refine wpG_split rfl rfl (fun hc => ?_) (fun hc => ?_) <;> try simp only [hcL] at hc) | (refine pw_cond _ rfl rfl (fun hc => ?_) (fun hc => ?_) <;> (try simp only [hcL] at hc) <;> try omega) | simp (disch := omega) only [go_sem, simprocAttr] | apply And.intro | omega | decide +kernel
  refine int_some ?_
  rw [widF, if_neg c]
theorem rwidth_spec (ws : List Int) (v : Int) (h0 : 0 ≤ v) : CallsTo Try.prog 37 [intsD ws, .int v] (.int (widF ws v)) := by
 refine callsTo_of Try.func37 rfl (by decide +kernel) (Nat.le_of_ble_eq_true rfl) ?_
 intro hat B X w0
 have h1 := at_len 0 hat rfl
 rw [List.length_map] at h1
 by_cases c : v < ws.length
 ·have hg := at0_get h0 c
  obtain ⟨n, rfl⟩ : ∃ n : Nat, v = n := ⟨v.toNat, by omega⟩
  rw [Int.toNat_natCast] at hg
  repeat' first | refine pw_step rfl ?_ | refine pw_ret ?_ | refine wR ?_ | (refine wpG_split rfl rfl (fun hc => ?_) (fun hc => ?_) <;> try simp only [hcL] at hc) | (refine pw_cond _ rfl rfl (fun hc => ?_) (fun hc => ?_) <;> (try simp only [hcL] at hc) <;> try omega) | simp (disch := omega) only [go_sem, simprocAttr, hg] | apply And.intro | omega | decide +kernel
  refine int_some ?_
  rw [widF, if_pos c]
 ·repeat' first | refine pw_step rfl ?_ | refine pw_ret ?_ | refine wR ?_ | (refine wpG_split rfl rfl (fun hc => ?_) (fun hc => ?_) <;> try simp only [hcL] at hc) | (refine pw_cond _ rfl rfl (fun hc => ?_) (fun hc => ?_) <;> (try simp only [hcL] at hc) <;> try omega) | simp (disch := omega) only [go_sem, simprocAttr] | apply And.intro | omega | decide +kernel
  refine int_some ?_
  rw [widF, if_neg c]
def szB (n : Int) : Bool := decide (0 ≤ n ∧ n ≤ 1048576)
theorem sized_spec (n : Int) : CallsTo Try.prog 35 [.int n] (.bool (szB n)) := by
 refine callsTo_of Try.func35 rfl (by decide +kernel) (Nat.le_of_ble_eq_true rfl) ?_
 intro hat B X w0
 repeat' first | refine pw_step rfl ?_ | refine pw_ret ?_ | refine wR ?_ | (refine wpG_split rfl rfl (fun hc => ?_) (fun hc => ?_) <;> try simp only [hcL] at hc) | (refine pw_cond _ rfl rfl (fun hc => ?_) (fun hc => ?_) <;> (try simp only [hcL] at hc) <;> try omega) | simp (disch := omega) only [go_sem, simprocAttr] | apply And.intro | omega | decide +kernel
 all_goals
  refine bool_some ?_
  simp [szB]; omega
def validA (a : Lv) (ws : List Int) (sep : Int) : Bool := validF a && decide ((ws.length : Int) = a.1) && szB sep && !ws.any fun w => !szB w
theorem valid_spec (a : Lv) (ws : List Int) (sep : Int) (hw : wide a) : CallsTo Try.prog 22 [lvD a, intsD ws, .int sep] (.bool (validA a ws sep)) := by
 have hv := LvValid_spec a hw
 have hs := sized_spec sep
 rcases hva : validF a with _ | _
 ·rw [hva] at hv
  refine callsTo_of Try.func22 rfl (by decide +kernel) (Nat.le_of_ble_eq_true rfl) ?_
  intro hat B X w0
  have h1 := at_len 1 hat rfl
  rw [List.length_map] at h1
  repeat' first | refine pw_step rfl ?_ | refine pw_ret ?_ | refine wR ?_ | (refine rc (hv) rfl ?_ ?_; (· first | rfl | simp (disch := omega) only [go_sem, simprocAttr])) | (refine wpG_split rfl rfl (fun hc => ?_) (fun hc => ?_) <;> try simp only [hcL] at hc) | (refine pw_cond _ rfl rfl (fun hc => ?_) (fun hc => ?_) <;> (try simp only [hcL] at hc) <;> try omega) | simp (disch := omega) only [go_sem, simprocAttr] | apply And.intro | omega | decide +kernel
  refine bool_some ?_
  rw [validA, hva]; rfl
 rw [hva] at hv
 rcases hsa : szB sep with _ | _
 ·rw [hsa] at hs
  refine callsTo_of Try.func22 rfl (by decide +kernel) (Nat.le_of_ble_eq_true rfl) ?_
  intro hat B X w0
  have h1 := at_len 1 hat rfl
  rw [List.length_map] at h1
  repeat' first | refine pw_step rfl ?_ | refine pw_ret ?_ | refine wR ?_ | (refine rc (hv) rfl ?_ ?_; (· first | rfl | simp (disch := omega) only [go_sem, simprocAttr])) | (refine rc (hs) rfl ?_ ?_; (· first | rfl | simp (disch := omega) only [go_sem, simprocAttr])) | (refine wpG_split rfl rfl (fun hc => ?_) (fun hc => ?_) <;> try simp only [hcL] at hc) | (refine pw_cond _ rfl rfl (fun hc => ?_) (fun hc => ?_) <;> (try simp only [hcL] at hc) <;> try omega) | simp (disch := omega) only [go_sem, simprocAttr] | apply And.intro | omega | decide +kernel
  all_goals
   refine bool_some ?_
   rw [validA, hsa]; simp
 rw [hsa] at hs
 by_cases hl : (ws.length : Int) = a.1
 ·have hh := (valid_head hva).1
  simp only [headOk, decide_eq_true_eq] at hh
  have e : validA a ws sep = !ws.any fun w => !szB w := by simp [validA, hva, hsa, hl]
  rw [e]
  refine callsTo_of Try.func22 rfl (by decide +kernel) (Nat.le_of_ble_eq_true rfl) ?_
  intro hat B X w0
  repeat' first | refine pw_step rfl ?_ | refine pw_ret ?_ | refine wR ?_ | (refine rc (hv) rfl ?_ ?_; (· first | rfl | simp (disch := omega) only [go_sem, simprocAttr, hl])) | (refine rc (hs) rfl ?_ ?_; (· first | rfl | simp (disch := omega) only [go_sem, simprocAttr, hl])) | (refine wpG_split rfl rfl (fun hc => ?_) (fun hc => ?_) <;> try simp only [hcL] at hc) | (refine pw_cond _ rfl rfl (fun hc => ?_) (fun hc => ?_) <;> (try simp only [hcL] at hc) <;> try omega) | simp (disch := omega) only [go_sem, simprocAttr, hl] | apply And.intro | omega | decide +kernel
  refine pw_loopI (κ := Nat) (fun (k : Nat) => k ≤ ws.length ∧ ∀ (j : Nat) y, j < k → ws[j]? = some y → (!szB y) = false) (fun (k : Nat) => [(24, .d (intsD ws)), (25, .int ws.length), (26, .int k)]) (fun (k : Nat) => []) (fun (k : Nat) => ws.length - k) 0 ?_ ?_ ?_
  ·exact ⟨Nat.zero_le _, fun j y h => by omega⟩
  ·exact eL [] _ _ (by refine ⟨?_, ?_⟩ <;> (repeat' first | exact fmn | refine fmc ⟨(by first | rfl | (simp (disch := omega) only [go_sem, simprocAttr, inL]; first | done | omega | (congr 1; done))), ?_⟩); done)
  ·rintro k ⟨hk, hinv⟩
   rcases Nat.lt_or_ge k ws.length with hlt | hge
   ·obtain ⟨y, hy⟩ := get_some hlt
    have hz := sized_spec y
    rcases hzy : szB y with _ | _
    ·rw [hzy] at hz
     repeat' first | refine pw_step rfl ?_ | refine pw_ret ?_ | refine wR ?_ | (refine rc (hz) rfl ?_ ?_; (· first | rfl | simp (disch := omega) only [go_sem, simprocAttr, hy])) | (refine wpG_split rfl rfl (fun hc => ?_) (fun hc => ?_) <;> try simp only [hcL] at hc) | (refine pw_cond _ rfl rfl (fun hc => ?_) (fun hc => ?_) <;> (try simp only [hcL] at hc) <;> try omega) | simp (disch := omega) only [go_sem, simprocAttr, hy] | apply And.intro | omega | decide +kernel
     refine bool_some ?_
     rw [any_at hy (by simp [hzy])]; rfl
    ·rw [hzy] at hz
     repeat' first | refine pw_step rfl ?_ | refine pw_ret ?_ | refine wR ?_ | (refine rc (hz) rfl ?_ ?_; (· first | rfl | simp (disch := omega) only [go_sem, simprocAttr, hy])) | (refine wpG_split rfl rfl (fun hc => ?_) (fun hc => ?_) <;> try simp only [hcL] at hc) | (refine pw_cond _ rfl rfl (fun hc => ?_) (fun hc => ?_) <;> (try simp only [hcL] at hc) <;> try omega) | simp (disch := omega) only [go_sem, simprocAttr, hy] | apply And.intro | omega | decide +kernel
     refine ⟨k + 1, ?_, eL [] _ _ (by refine ⟨?_, ?_⟩ <;> (repeat' first | exact fmn | refine fmc ⟨(by first | rfl | (simp (disch := omega) only [go_sem, simprocAttr, inL]; first | done | omega | (congr 1; done))), ?_⟩); done), ?_⟩
     ·exact ⟨by omega, upto_succ hinv hy (by simp [hzy])⟩
     ·omega
   ·repeat' first | refine pw_step rfl ?_ | refine pw_ret ?_ | refine wR ?_ | (refine wpG_split rfl rfl (fun hc => ?_) (fun hc => ?_) <;> try simp only [hcL] at hc) | (refine pw_cond _ rfl rfl (fun hc => ?_) (fun hc => ?_) <;> (try simp only [hcL] at hc) <;> try omega) | simp (disch := omega) only [go_sem, simprocAttr] | apply And.intro | omega | decide +kernel
    refine bool_some ?_
    rw [any_no (fun j y hj => hinv j y (by omega))]; rfl
 ·refine callsTo_of Try.func22 rfl (by decide +kernel) (Nat.le_of_ble_eq_true rfl) ?_
  intro hat B X w0
  have h1 := at_len 1 hat rfl
  rw [List.length_map] at h1
  repeat' first | refine pw_step rfl ?_ | refine pw_ret ?_ | refine wR ?_ | (refine rc (hv) rfl ?_ ?_; (· first | rfl | simp (disch := omega) only [go_sem, simprocAttr, hl])) | (refine rc (hs) rfl ?_ ?_; (· first | rfl | simp (disch := omega) only [go_sem, simprocAttr, hl])) | (refine wpG_split rfl rfl (fun hc => ?_) (fun hc => ?_) <;> try simp only [hcL] at hc) | (refine pw_cond _ rfl rfl (fun hc => ?_) (fun hc => ?_) <;> (try simp only [hcL] at hc) <;> try omega) | simp (disch := omega) only [go_sem, simprocAttr, hl] | apply And.intro | omega | decide +kernel
  refine bool_some ?_
  simp [validA, hl]
theorem rvalid_spec (a : Lv) (ws : List Int) (sep : Int) (hw : wide a) : CallsTo Try.prog 26 [lvD a, intsD ws, .int sep] (.bool (validA a ws sep)) := by
 have hv := rLvValid_spec a hw
 rw [← valid_same] at hv
 rcases hva : validF a with _ | _
 ·rw [hva] at hv
  refine callsTo_of Try.func26 rfl (by decide +kernel) (Nat.le_of_ble_eq_true rfl) ?_
  intro hat B X w0
  have h1 := at_len 1 hat rfl
  rw [List.length_map] at h1
  repeat' first | refine pw_step rfl ?_ | refine pw_ret ?_ | refine wR ?_ | (refine rc (hv) rfl ?_ ?_; (· first | rfl | simp (disch := omega) only [go_sem, simprocAttr])) | (refine wpG_split rfl rfl (fun hc => ?_) (fun hc => ?_) <;> try simp only [hcL] at hc) | (refine pw_cond _ rfl rfl (fun hc => ?_) (fun hc => ?_) <;> (try simp only [hcL] at hc) <;> try omega) | simp (disch := omega) only [go_sem, simprocAttr] | apply And.intro | omega | decide +kernel
  refine bool_some ?_
  rw [validA, hva]; rfl
 rw [hva] at hv
 by_cases hl : (ws.length : Int) = a.1
 ·have hh := (valid_head hva).1
  simp only [headOk, decide_eq_true_eq] at hh
  refine callsTo_of Try.func26 rfl (by decide +kernel) (Nat.le_of_ble_eq_true rfl) ?_
  intro hat B X w0
  repeat' first | refine pw_step rfl ?_ | refine pw_ret ?_ | refine wR ?_ | (refine rc (hv) rfl ?_ ?_; (· first | rfl | simp (disch := omega) only [go_sem, simprocAttr, hl])) | (refine wpG_split rfl rfl (fun hc => ?_) (fun hc => ?_) <;> try simp only [hcL] at hc) | (refine pw_cond _ rfl rfl (fun hc => ?_) (fun hc => ?_) <;> (try simp only [hcL] at hc) <;> try omega) | simp (disch := omega) only [go_sem, simprocAttr, hl] | apply And.intro | omega | decide +kernel
  ·refine bool_some ?_
   rw [validA, szB]; simp; omega
  ·refine bool_some ?_
   rw [validA, szB]; simp; omega
  have e : validA a ws sep = !ws.any fun w => !szB w := by
   have : szB sep = true := by rw [szB, decide_eq_true_eq]; omega
   simp [validA, hva, this, hl]
  rw [e]
  refine pw_loopI (κ := Nat) (fun (k : Nat) => k ≤ ws.length ∧ ∀ (j : Nat) y, j < k → ws[j]? = some y → (!szB y) = false) (fun (k : Nat) => [(1, .d (intsD ws)), (7, .int k)]) (fun (k : Nat) => []) (fun (k : Nat) => ws.length - k) 0 ?_ ?_ ?_
  ·exact ⟨Nat.zero_le _, fun j y h => by omega⟩
  ·exact eL [] _ _ (by refine ⟨?_, ?_⟩ <;> (repeat' first | exact fmn | refine fmc ⟨(by first | rfl | (simp (disch := omega) only [go_sem, simprocAttr, inL]; first | done | omega | (congr 1; done))), ?_⟩); done)
  ·rintro k ⟨hk, hinv⟩
   rcases Nat.lt_or_ge k ws.length with hlt | hge
   ·obtain ⟨y, hy⟩ := get_some hlt
    repeat' first | refine pw_step rfl ?_ | refine pw_ret ?_ | refine wR ?_ | (refine wpG_split rfl rfl (fun hc => ?_) (fun hc => ?_) <;> try simp only [hcL] at hc) | (refine pw_cond _ rfl rfl (fun hc => ?_) (fun hc => ?_) <;> (try simp only [hcL] at hc) <;> try omega) | simp (disch := omega) only [go_sem, simprocAttr, hy] | apply And.intro | omega | decide +kernel
    all_goals try
     refine bool_some ?_
     rw [any_at hy (by simp [szB]; omega)]; rfl
    refine ⟨k + 1, ?_, eL [] _ _ (by refine ⟨?_, ?_⟩ <;> (repeat' first | exact fmn | refine fmc ⟨(by first | rfl | (simp (disch := omega) only [go_sem, simprocAttr, inL]; first | done | omega | (congr 1; done))), ?_⟩); done), ?_⟩
    ·exact ⟨by omega, upto_succ hinv hy (by simp [szB]; omega)⟩
    ·omega
   ·repeat' first | refine pw_step rfl ?_ | refine pw_ret ?_ | refine wR ?_ | (refine wpG_split rfl rfl (fun hc => ?_) (fun hc => ?_) <;> try simp only [hcL] at hc) | (refine pw_cond _ rfl rfl (fun hc => ?_) (fun hc => ?_) <;> (try simp only [hcL] at hc) <;> try omega) | simp (disch := omega) only [go_sem, simprocAttr] | apply And.intro | omega | decide +kernel
    refine bool_some ?_
    rw [any_no (fun j y hj => hinv j y (by omega))]; rfl
 ·refine callsTo_of Try.func26 rfl (by decide +kernel) (Nat.le_of_ble_eq_true rfl) ?_
  intro hat B X w0
  have h1 := at_len 1 hat rfl
  rw [List.length_map] at h1
  repeat' first | refine pw_step rfl ?_ | refine pw_ret ?_ | refine wR ?_ | (refine rc (hv) rfl ?_ ?_; (· first | rfl | simp (disch := omega) only [go_sem, simprocAttr, hl])) | (refine wpG_split rfl rfl (fun hc => ?_) (fun hc => ?_) <;> try simp only [hcL] at hc) | (refine pw_cond _ rfl rfl (fun hc => ?_) (fun hc => ?_) <;> (try simp only [hcL] at hc) <;> try omega) | simp (disch := omega) only [go_sem, simprocAttr, hl] | apply And.intro | omega | decide +kernel
  all_goals
   refine bool_some ?_
   simp [validA, hl]
end Go.Proofs.Ythbcmebhpabpnaa
namespace Go.Proofs.Ythbcmebhpabpnaa
open Go Go.PS Go.Proofs
open Sx (Bd bdD bdsD Net nD)
set_option maxRecDepth 100000
attribute [local irreducible] wpRun wpG CallsTo CallsM

structure VA (a : Lv) (ws : List Int) (sep : Int) : Prop where
 ok : validA a ws sep = true
 v : validF a = true
 n : 0 ≤ a.1 ∧ a.1 ≤ 64
 len : (ws.length : Int) = a.1
 tt : tot a.2.1 ≤ 512
 ls : a.2.1.length ≤ 256
 sep : 0 ≤ sep ∧ sep ≤ 1048576
 ws : ∀ w, w ∈ ws → 0 ≤ w ∧ w ≤ 1048576
 vert : ∀ y, y ∈ a.2.1 → ∀ x, x ∈ y → 0 ≤ x ∧ x < tot a.2.1
 nodup : a.2.1.flatten.Nodup
 arcs : ∀ x, x ∈ a.2.2.1 → (0 ≤ x.1 ∧ x.1 < tot a.2.1) ∧ 0 ≤ x.2 ∧ x.2 < tot a.2.1
theorem valid_vert {a : Lv} (h : validF a = true) : a.2.1.length ≤ 256 ∧ tot a.2.1 ≤ 512 ∧ (∀ y, y ∈ a.2.1 → ∀ x, x ∈ y → 0 ≤ x ∧ x < tot a.2.1) ∧ a.2.1.flatten.Nodup := by
 obtain ⟨_, _, hr⟩ := valid_built h
 obtain ⟨h1, h2, h3, _⟩ := ranks_ok hr
 rw [good_iff] at h3
 exact ⟨h1, h2, fun y hy x hx => h3.1 x (List.mem_flatten.2 ⟨y, hy, hx⟩), h3.2⟩
theorem mem_catL {α : Type} {g : Nat → List α} {x : α} : ∀ {n : Nat}, x ∈ catN g n ↔ ∃ k, k < n ∧ x ∈ g k
 | 0 => by simp [catN]
 | n + 1 => by
  rw [catN, List.mem_append, mem_catL]
  constructor
  ·rintro (⟨k, h1, h2⟩ | h)
   ·exact ⟨k, by omega, h2⟩
   ·exact ⟨n, by omega, h⟩
  ·rintro ⟨k, h1, h2⟩
   rcases Nat.lt_succ_iff_lt_or_eq.1 h1 with h | rfl
   ·exact .inl ⟨k, h, h2⟩
   ·exact .inr h2
theorem valid_arcs {a : Lv} (h : validF a = true) : ∀ x, x ∈ a.2.2.1 → (0 ≤ x.1 ∧ x.1 < tot a.2.1) ∧ 0 ≤ x.2 ∧ x.2 < tot a.2.1 := by
 obtain ⟨b, hm, hr⟩ := valid_built h
 have e1 : a.2.2.1 = arcsF (ranksV a) (srcG a).2 (srcG a).2.length := congrArg (fun x : Lv => x.2.2.1) hm
 have e2 : tot a.2.1 = (allR (ranksV a) (srcG a).2 (srcG a).2.length).length := by
  obtain ⟨_, _, _, h4⟩ := ranks_ok hr
  rw [h4, rowR_len]
 rw [e1, e2]
 intro x hx
 obtain ⟨e, he, hx⟩ := mem_catL.1 hx
 obtain ⟨y, hy⟩ := get_some he
 rw [arcsAt, hy] at hx
 obtain ⟨j, hj, rfl⟩ := List.mem_map.1 hx
 have hj := List.mem_range.1 hj
 have c1 := b.chain_at hy (j := j) (by omega)
 have c2 := b.chain_at hy (j := j + 1) (by omega)
 exact ⟨⟨c1.1, c1.2.1⟩, c2.1, c2.2.1⟩
theorem VA.of {a : Lv} {ws : List Int} {sep : Int} (h : validA a ws sep = true) : VA a ws sep := by
 have h0 := h
 simp only [validA, Bool.and_eq_true, decide_eq_true_eq, Bool.not_eq_true', szB] at h
 obtain ⟨⟨⟨h1, h2⟩, h3⟩, h4⟩ := h
 have hh := (valid_head h1).1
 simp only [headOk, decide_eq_true_eq] at hh
 obtain ⟨g1, g2, g3, g4⟩ := valid_vert h1
 refine ⟨h0, h1, ⟨hh.1, hh.2.1⟩, h2, g2, g1, h3, fun w hw => ?_, g3, g4, valid_arcs h1⟩
 have := List.any_eq_false.1 h4 w hw
 simpa using this
def apF (ws : List Int) (sep u v : Int) : Int := (widF ws u + widF ws v + 1) / 2 + sep
theorem wid_in {a : Lv} {ws : List Int} {sep : Int} (h : VA a ws sep) (v : Int) : 0 ≤ widF ws v ∧ widF ws v ≤ 1048576 := by
 rw [widF]
 split
 ·rename_i hv
  rw [at0]
  cases hx : ws[v.toNat]? with
  | none => simp
  | some w => exact h.ws w (List.mem_of_getElem? hx)
 ·omega
theorem ap_in {a : Lv} {ws : List Int} {sep : Int} (h : VA a ws sep) (u v : Int) : 0 ≤ apF ws sep u v ∧ apF ws sep u v ≤ 2097153 := by
 have := wid_in h u
 have := wid_in h v
 have := h.sep
 rw [apF]; omega
def prAt (ws : List Int) (sep : Int) (x : List Int) (j : Nat) : Bd := (at0 x (j : Int), at0 x ((j + 1 : Nat) : Int), apF ws sep (at0 x (j : Int)) (at0 x ((j + 1 : Nat) : Int)), 0)
def prN (ws : List Int) (sep : Int) (x : List Int) (k : Nat) : List Bd := (List.range k).map (prAt ws sep x)
theorem prN_succ (ws : List Int) (sep : Int) (x : List Int) (k : Nat) : prN ws sep x (k + 1) = prN ws sep x k ++ [prAt ws sep x k] := by simp [prN, List.range_succ]
theorem prN_step {ws : List Int} {sep : Int} {x : List Int} {j : Nat} {u v : Int} (h1 : 1 ≤ j) (hu : x[j - 1]? = some u) (hv : x[j]? = some v) : prN ws sep x j = prN ws sep x (j - 1) ++ [(u, v, apF ws sep u v, 0)] := by
 obtain ⟨i, rfl⟩ : ∃ i, j = i + 1 := ⟨j - 1, by omega⟩
 rw [Nat.add_sub_cancel] at hu ⊢
 rw [prN_succ, prAt]
 have e1 : at0 x (i : Int) = u := by rw [at0, Int.toNat_natCast, hu]; rfl
 have e2 : at0 x ((i + 1 : Nat) : Int) = v := by rw [at0, Int.toNat_natCast, hv]; rfl
 rw [e1, e2]
theorem prN_len (ws : List Int) (sep : Int) (x : List Int) (k : Nat) : (prN ws sep x k).length = k := by simp [prN]
def prL (ws : List Int) (sep : Int) (ls : List (List Int)) (i : Nat) : List Bd := match ls[i]? with
 | some x => prN ws sep x (x.length - 1)
 | none => []
def allP (ws : List Int) (sep : Int) (ls : List (List Int)) (k : Nat) : List Bd := catN (prL ws sep ls) k
theorem allP_succ {ws : List Int} {sep : Int} {ls : List (List Int)} {k : Nat} {x : List Int} (h : ls[k]? = some x) : allP ws sep ls (k + 1) = allP ws sep ls k ++ prN ws sep x (x.length - 1) := by
 rw [allP, catN, prL, h]; rfl
def curP (ws : List Int) (sep : Int) (ls : List (List Int)) (k : Nat) (x : List Int) (j : Nat) : List Bd := allP ws sep ls k ++ prN ws sep x (j - 1)
theorem curP_one (ws : List Int) (sep : Int) (ls : List (List Int)) (k : Nat) (x : List Int) : curP ws sep ls k x 1 = allP ws sep ls k := by simp [curP, prN]
theorem curP_step {ws : List Int} {sep : Int} {ls : List (List Int)} {k : Nat} {x : List Int} {j : Nat} {u v : Int} (h1 : 1 ≤ j) (hu : x[j - 1]? = some u) (hv : x[j]? = some v) :
  curP ws sep ls k x (j + 1) = curP ws sep ls k x j ++ [(u, v, apF ws sep u v, 0)] := by
 rw [curP, curP, Nat.add_sub_cancel, prN_step h1 hu hv, List.append_assoc]
theorem curP_end {ws : List Int} {sep : Int} {ls : List (List Int)} {k : Nat} {x : List Int} {j : Nat} (h : ls[k]? = some x) (hj : j - 1 = x.length - 1) : allP ws sep ls (k + 1) = curP ws sep ls k x j := by
 rw [allP_succ h, curP, hj]
theorem allP_len (ws : List Int) (sep : Int) (ls : List (List Int)) : ∀ k, k ≤ ls.length → (allP ws sep ls k).length ≤ tot (ls.take k)
 | 0, _ => by simp [allP, catN]
 | k + 1, hk => by
  obtain ⟨x, hx⟩ := get_some (show k < ls.length by omega)
  have := allP_len ws sep ls k (by omega)
  rw [allP_succ hx, List.length_append, prN_len, tot_snoc hx]; omega
abbrev pairD (b : Bd) : D := .ag [.int b.1, .int b.2.1, .int b.2.2.1]
theorem pair_cells (b : Bd) : ∀ d, d ∈ [pairD b] → d.cells.length = 3 := by intro d hd; rw [List.mem_singleton] at hd; subst hd; rfl
theorem bd_cells (b : Bd) : ∀ d, d ∈ [bdD b] → d.cells.length = 4 := by intro d hd; rw [List.mem_singleton] at hd; subst hd; rfl
set_option maxHeartbeats 4000000 in
theorem pairs_spec (a : Lv) (ws : List Int) (sep : Int) (h : VA a ws sep) : CallsTo Try.prog 25 [lvD a, intsD ws, .int sep] (.sl ((allP ws sep a.2.1 a.2.1.length).map pairD)) := by
 obtain ⟨n, ls, ar, cs⟩ := a
 have hl := h.ls
 have ht := h.tt
 have hvt := h.vert
 dsimp only at hl ht hvt ⊢
 refine callsTo_of Try.func25 rfl (by decide +kernel) (Nat.le_of_ble_eq_true rfl) ?_
 intro hat B X w0
 repeat' first | refine pw_step rfl ?_ | refine pw_ret ?_ | refine wR ?_ | (refine wpG_split rfl rfl (fun hc => ?_) (fun hc => ?_) <;> try simp only [hcL] at hc) | (refine pw_cond _ rfl rfl (fun hc => ?_) (fun hc => ?_) <;> (try simp only [hcL] at hc) <;> try omega) | simp (disch := omega) only [go_sem, simprocAttr] | apply And.intro | omega | decide +kernel
 refine pw_ent _ (ent_nil 7 901 3 rfl rfl) ?_
 refine pw_loopI (κ := Nat) (fun (k : Nat) => k ≤ ls.length) (fun (k : Nat) => [(1, .d (intsD ws)), (2, .int sep), (7, .ref 901 3 0 (allP ws sep ls k).length (allP ws sep ls k).length), (14, .d (listsD ls)), (15, .int ls.length), (16, .int k)]) (fun (k : Nat) => [(901, .row 3 ((allP ws sep ls k).map pairD))]) (fun (k : Nat) => ls.length - k) 0 ?_ ?_ ?_
 ·exact Nat.zero_le _
 ·exact eL [] _ _ (by refine ⟨?_, ?_⟩ <;> (repeat' first | exact fmn | refine fmc ⟨(by first | rfl | (simp (disch := omega) only [go_sem, simprocAttr, inL]; first | done | omega | (congr 1; done))), ?_⟩); done)
 ·intro k hk
  have hAl := allP_len ws sep ls k hk
  have hAt := tot_take_le ls k
  rcases Nat.lt_or_ge k ls.length with hlt | hge
  ·obtain ⟨x, hx⟩ := get_some hlt
   have hxl := tot_mem (List.mem_of_getElem? hx)
   have hxv := hvt x (List.mem_of_getElem? hx)
   repeat' first | refine pw_step rfl ?_ | refine pw_ret ?_ | refine wR ?_ | (refine wpG_split rfl rfl (fun hc => ?_) (fun hc => ?_) <;> try simp only [hcL] at hc) | (refine pw_cond _ rfl rfl (fun hc => ?_) (fun hc => ?_) <;> (try simp only [hcL] at hc) <;> try omega) | simp (disch := omega) only [go_sem, simprocAttr, hx] | apply And.intro | omega | decide +kernel
   refine pw_loopI (κ := Nat) (fun (j : Nat) => 1 ≤ j ∧ j - 1 ≤ x.length - 1) (fun (j : Nat) => [(1, .d (intsD ws)), (2, .int sep), (7, .ref 901 3 0 (curP ws sep ls k x j).length (curP ws sep ls k x j).length), (9, .d (intsD x)), (10, .int j), (14, .d (listsD ls)), (15, .int ls.length), (16, .int k)]) (fun (j : Nat) => [(901, .row 3 ((curP ws sep ls k x j).map pairD))]) (fun (j : Nat) => x.length - j) 1 ?_ ?_ ?_
   ·omega
   ·exact eL [] _ _ (by refine ⟨?_, ?_⟩ <;> (repeat' first | exact fmn | refine fmc ⟨(by first | rfl | (simp (disch := omega) only [go_sem, simprocAttr, inL, curP_one]; first | done | omega | (congr 1; done))), ?_⟩); done)
   ·rintro j ⟨hj1, hj⟩
    have hpl := prN_len ws sep x (j - 1)
    rcases Nat.lt_or_ge j x.length with hjl | hjl
    ·obtain ⟨u, g1⟩ := get_some (show j - 1 < x.length by omega)
     obtain ⟨v, g2⟩ := get_some hjl
     have i1 := hxv _ (List.mem_of_getElem? g1)
     have i2 := hxv _ (List.mem_of_getElem? g2)
     have e1 : (j : Int) - 1 = (j - 1 : Nat) := by omega
     have w1 := width_spec ws u i1.1
     have w2 := width_spec ws v i2.1
     have b1 := wid_in h u
     have b2 := wid_in h v
     have b3 := h.sep
     have hq : (widF ws u + widF ws v + 1).tdiv 2 + sep = apF ws sep u v := by
      rw [apF, Int.tdiv_eq_ediv_of_nonneg (by omega)]
     have hp := curP_step (ws := ws) (sep := sep) (ls := ls) (k := k) hj1 g1 g2
     have hap := ap_in h u v
     have hll : (curP ws sep ls k x j).length ≤ 2000 := by rw [curP, List.length_append, hpl]; omega
     repeat' first | refine pw_step rfl ?_ | refine pw_ret ?_ | refine wR ?_ | (refine rc (w1) rfl ?_ ?_; (· first | rfl | simp (disch := omega) only [go_sem, simprocAttr, e1, g1, g2, hq, roomy, take_map_len])) | (refine rc (w2) rfl ?_ ?_; (· first | rfl | simp (disch := omega) only [go_sem, simprocAttr, e1, g1, g2, hq, roomy, take_map_len])) | (refine wpG_split rfl rfl (fun hc => ?_) (fun hc => ?_) <;> try simp only [hcL] at hc) | (refine pw_cond _ rfl rfl (fun hc => ?_) (fun hc => ?_) <;> (try simp only [hcL] at hc) <;> try omega) | simp (disch := omega) only [go_sem, simprocAttr, e1, g1, g2, hq, roomy, take_map_len] | exact pair_cells (u, v, apF ws sep u v, 0) | apply And.intro | omega | decide +kernel
     refine ⟨j + 1, ?_, eL [(901, 51)] _ _ (by refine ⟨?_, ?_⟩ <;> (repeat' first | exact fmn | refine fmc ⟨(by first | rfl | (simp (disch := omega) only [go_sem, simprocAttr, inL, hp, List.length_append, List.length_singleton, List.map_append, List.map_cons, List.map_nil]; first | done | omega | (congr 1; done))), ?_⟩); done), ?_⟩
     ·omega
     ·omega
    ·have hj : j - 1 = x.length - 1 := by omega
     have hs := curP_end (ws := ws) (sep := sep) hx hj
     repeat' first | refine pw_step rfl ?_ | refine pw_ret ?_ | refine wR ?_ | (refine wpG_split rfl rfl (fun hc => ?_) (fun hc => ?_) <;> try simp only [hcL] at hc) | (refine pw_cond _ rfl rfl (fun hc => ?_) (fun hc => ?_) <;> (try simp only [hcL] at hc) <;> try omega) | simp (disch := omega) only [go_sem, simprocAttr] | apply And.intro | omega | decide +kernel
     refine ⟨k + 1, ?_, eL [] _ _ (by refine ⟨?_, ?_⟩ <;> (repeat' first | exact fmn | refine fmc ⟨(by first | rfl | (simp (disch := omega) only [go_sem, simprocAttr, inL, hs]; first | done | omega | (congr 1; done))), ?_⟩); done), ?_⟩
     ·omega
     ·omega
  ·have hk : k = ls.length := by omega
   subst hk
   repeat' first | refine pw_step rfl ?_ | refine pw_ret ?_ | refine wR ?_ | (refine wpG_split rfl rfl (fun hc => ?_) (fun hc => ?_) <;> try simp only [hcL] at hc) | (refine pw_cond _ rfl rfl (fun hc => ?_) (fun hc => ?_) <;> (try simp only [hcL] at hc) <;> try omega) | simp (disch := omega) only [go_sem, simprocAttr] | apply And.intro | omega | decide +kernel
   exact ret_ref (o := 901) rfl rfl (by simp) (by rw [List.take_of_length_le (by simp)])
end Go.Proofs.Ythbcmebhpabpnaa
namespace Go.Proofs.Ythbcmebhpabpnaa
open Go Go.PS Go.Proofs
open Sx (Bd bdD bdsD Net nD)
set_option maxRecDepth 100000
attribute [local irreducible] wpRun wpG CallsTo CallsM

def arcB (a : Lv) (k : Nat) (x : Arc) : List Bd := [(((tot a.2.1 + k : Nat) : Int), x.1, 0, wgtF a.1 x), (((tot a.2.1 + k : Nat) : Int), x.2, 0, wgtF a.1 x)]
def arcL (a : Lv) (k : Nat) : List Bd := match a.2.2.1[k]? with
 | some x => arcB a k x
 | none => []
def arcsB (a : Lv) (k : Nat) : List Bd := catN (arcL a) k
theorem arcsB_succ {a : Lv} {k : Nat} {x : Arc} (h : a.2.2.1[k]? = some x) : arcsB a (k + 1) = arcsB a k ++ arcB a k x := by
 rw [arcsB, catN, arcL, h]; rfl
theorem arcsB_len (a : Lv) : ∀ k, k ≤ a.2.2.1.length → (arcsB a k).length = 2 * k
 | 0, _ => rfl
 | k + 1, hk => by
  obtain ⟨x, hx⟩ := get_some (show k < a.2.2.1.length by omega)
  rw [arcsB_succ hx, List.length_append, arcsB_len a k (by omega), arcB]; simp; omega
def netF (a : Lv) (ws : List Int) (sep : Int) : Net := (((tot a.2.1 + a.2.2.1.length : Nat) : Int), arcsB a a.2.2.1.length ++ allP ws sep a.2.1 a.2.1.length)
theorem arcB_cells (a : Lv) (k : Nat) (x : Arc) : ∀ d, d ∈ [bdD (((tot a.2.1 + k : Nat) : Int), x.1, 0, wgtF a.1 x), bdD (((tot a.2.1 + k : Nat) : Int), x.2, 0, wgtF a.1 x)] → d.cells.length = 4 := by
 intro d hd
 simp only [List.mem_cons, List.not_mem_nil, or_false] at hd
 rcases hd with rfl | rfl <;> rfl
theorem allP_zero (ws : List Int) (sep : Int) (ls : List (List Int)) (k : Nat) : ∀ q, q ∈ allP ws sep ls k → q.2.2.2 = 0 := by
 intro q hq
 obtain ⟨i, _, hq⟩ := mem_catL.1 hq
 rw [prL] at hq
 split at hq
 ·obtain ⟨j, _, rfl⟩ := List.mem_map.1 hq; rfl
 ·simp at hq
theorem Net_bad (a : Lv) (ws : List Int) (sep : Int) (hw : wide a) (h : validA a ws sep = false) : CallsTo Try.prog 10 [lvD a, intsD ws, .int sep] (.tup [nD (0, []), .int 1]) := by
 have hv := valid_spec a ws sep hw
 rw [h] at hv
 refine callsTo_of Try.func10 rfl (by decide +kernel) (Nat.le_of_ble_eq_true rfl) ?_
 intro hat B X w0
 repeat' first | refine pw_step rfl ?_ | refine pw_ret ?_ | refine wR ?_ | (refine rc (hv) rfl ?_ ?_; (· first | rfl | simp (disch := omega) only [go_sem, simprocAttr])) | (refine wpG_split rfl rfl (fun hc => ?_) (fun hc => ?_) <;> try simp only [hcL] at hc) | (refine pw_cond _ rfl rfl (fun hc => ?_) (fun hc => ?_) <;> (try simp only [hcL] at hc) <;> try omega) | simp (disch := omega) only [go_sem, simprocAttr] | apply And.intro | omega | decide +kernel
 refine ⟨_, rfl, ⟨_, _, _, _, rfl, ?_⟩, ?_, trivial⟩
 ·simp (disch := omega) only [go_sem, simprocAttr]
  rfl
 ·rfl
theorem rNet_bad (a : Lv) (ws : List Int) (sep : Int) (hw : wide a) (h : validA a ws sep = false) : CallsTo Try.prog 11 [lvD a, intsD ws, .int sep] (.tup [nD (0, []), .int 1]) := by
 have hv := rvalid_spec a ws sep hw
 rw [h] at hv
 refine callsTo_of Try.func11 rfl (by decide +kernel) (Nat.le_of_ble_eq_true rfl) ?_
 intro hat B X w0
 repeat' first | refine pw_step rfl ?_ | refine pw_ret ?_ | refine wR ?_ | (refine rc (hv) rfl ?_ ?_; (· first | rfl | simp (disch := omega) only [go_sem, simprocAttr])) | (refine wpG_split rfl rfl (fun hc => ?_) (fun hc => ?_) <;> try simp only [hcL] at hc) | (refine pw_cond _ rfl rfl (fun hc => ?_) (fun hc => ?_) <;> (try simp only [hcL] at hc) <;> try omega) | simp (disch := omega) only [go_sem, simprocAttr] | apply And.intro | omega | decide +kernel
 refine ⟨_, rfl, ⟨_, _, _, _, rfl, ?_⟩, ?_, trivial⟩
 ·simp (disch := omega) only [go_sem, simprocAttr]
  rfl
 ·rfl
set_option maxHeartbeats 8000000 in
theorem Net_spec (a : Lv) (ws : List Int) (sep : Int) (hw : wide a) (h : VA a ws sep) (hal : a.2.2.1.length ≤ 1000) : CallsTo Try.prog 10 [lvD a, intsD ws, .int sep] (.tup [nD (netF a ws sep), .int 0]) := by
 have hv := valid_spec a ws sep hw
 rw [h.ok] at hv
 have ht := h.tt
 have hvx := vertices_spec a (by omega)
 have hps := pairs_spec a ws sep h
 have hwt := weight_spec a
 have hAl := allP_len ws sep a.2.1 a.2.1.length (Nat.le_refl _)
 rw [List.take_length] at hAl
 rw [netF]
 have hab := arcsB_len a
 have hsa := @arcsB_succ a
 have hbc := arcB_cells a
 revert hab hsa hbc
 unfold arcB
 generalize arcsB a = AB
 intro hab hsa hbc
 obtain ⟨n, ls, ar, cs⟩ := a
 dsimp only at ht hvx hps hwt hAl hab hsa hbc hal ⊢
 have hpz := allP_zero ws sep ls ls.length
 generalize allP ws sep ls ls.length = PL at hps hAl hpz ⊢
 refine callsTo_of Try.func10 rfl (by decide +kernel) (Nat.le_of_ble_eq_true rfl) ?_
 intro hat B X w0
 have e0 : (tot ls : Int) + ar.length = ((tot ls + ar.length : Nat) : Int) := by omega
 repeat' first | refine pw_step rfl ?_ | refine pw_ret ?_ | refine wR ?_ | (refine rc (hv) rfl ?_ ?_; (· first | rfl | simp (disch := omega) only [go_sem, simprocAttr, e0])) | (refine rc (hvx) rfl ?_ ?_; (· first | rfl | simp (disch := omega) only [go_sem, simprocAttr, e0])) | (refine wpG_split rfl rfl (fun hc => ?_) (fun hc => ?_) <;> try simp only [hcL] at hc) | (refine pw_cond _ rfl rfl (fun hc => ?_) (fun hc => ?_) <;> (try simp only [hcL] at hc) <;> try omega) | simp (disch := omega) only [go_sem, simprocAttr, e0] | apply And.intro | omega | decide +kernel
 refine pw_ent _ (ent_nilC 8 1 901 4 rfl rfl rfl) ?_
 refine pw_loopI (κ := Nat) (fun (k : Nat) => k ≤ ar.length) (fun (k : Nat) => [(1, .d (intsD ws)), (2, .int sep), (3, .ptr 3 0 0 0), (6, .ptr 6 0 0 0), (8, .ptr 8 0 0 0), (29, .d (arcsD ar)), (30, .int ar.length), (31, .int k)]) (fun (k : Nat) => [(3, .cells [.int n, .d (listsD ls), .d (arcsD ar), .d (listsD cs)]), (6, .cells [.int 0, .nilS]), (8, .cells [.int ((tot ls + ar.length : Nat) : Int), .ref 901 4 0 (AB k).length (AB k).length]), (901, .row 4 ((AB k).map bdD))]) (fun (k : Nat) => ar.length - k) 0 ?_ ?_ ?_
 ·exact Nat.zero_le _
 ·have hz : AB 0 = [] := List.length_eq_zero_iff.1 (hab 0 (by omega))
  exact eL [] _ _ (by refine ⟨?_, ?_⟩ <;> (repeat' first | exact fmn | refine fmc ⟨(by first | rfl | (simp (disch := omega) only [go_sem, simprocAttr, inL, hz]; first | done | omega | (congr 1; done))), ?_⟩); done)
 ·intro k hk
  have hkl := hab k hk
  rcases Nat.lt_or_ge k ar.length with hlt | hge
  ·obtain ⟨x, hx⟩ := get_some hlt
   have hs := hsa hx
   have hc1 := hbc k x
   have hw1 := hwt x
   have e1 : (tot ls : Int) + k = ((tot ls + k : Nat) : Int) := by omega
   revert hs hc1 hw1
   generalize wgtF n x = wg
   intro hs hc1 hw1
   repeat' first | refine pw_step rfl ?_ | refine pw_ret ?_ | refine wR ?_ | (refine rc (hvx) rfl ?_ ?_; (· first | rfl | simp (disch := omega) only [go_sem, simprocAttr, hx, e1, roomy, take_map_len])) | (refine rc (hw1) rfl ?_ ?_; (· first | rfl | simp (disch := omega) only [go_sem, simprocAttr, hx, e1, roomy, take_map_len])) | (refine wpG_split rfl rfl (fun hc => ?_) (fun hc => ?_) <;> try simp only [hcL] at hc) | (refine pw_cond _ rfl rfl (fun hc => ?_) (fun hc => ?_) <;> (try simp only [hcL] at hc) <;> try omega) | simp (disch := omega) only [go_sem, simprocAttr, hx, e1, roomy, take_map_len] | exact hc1 | apply And.intro | omega | decide +kernel
   refine ⟨k + 1, ?_, eL [(901, 56)] _ _ (by refine ⟨?_, ?_⟩ <;> (repeat' first | exact fmn | refine fmc ⟨(by first | rfl | (simp (disch := omega) only [go_sem, simprocAttr, inL, hs, List.length_append, List.length_cons, List.length_nil, List.map_append, List.map_cons, List.map_nil]; first | done | omega | (congr 1; done))), ?_⟩); done), ?_⟩
   ·omega
   ·omega
  ·have hk : k = ar.length := by omega
   subst hk
   obtain ⟨C, hC⟩ : ∃ C : Nat → List Bd, C = fun j => AB ar.length ++ PL.take j := ⟨_, rfl⟩
   have hC0 : C 0 = AB ar.length := by rw [hC]; simp
   have hCe : AB ar.length ++ PL = C PL.length := by rw [hC]; simp
   have hCs : ∀ (j : Nat) q, PL[j]? = some q → C (j + 1) = C j ++ [q] := fun j q hq => by simp only [hC]; rw [take_snoc hq, List.append_assoc]
   have hCl : ∀ j, (C j).length ≤ 3000 := fun j => by simp only [hC]; rw [List.length_append, List.length_take]; omega
   rw [hCe]
   repeat' first | refine pw_step rfl ?_ | refine pw_ret ?_ | refine wR ?_ | (refine rc (hps) rfl ?_ ?_; (· first | rfl | simp (disch := omega) only [go_sem, simprocAttr])) | (refine wpG_split rfl rfl (fun hc => ?_) (fun hc => ?_) <;> try simp only [hcL] at hc) | (refine pw_cond _ rfl rfl (fun hc => ?_) (fun hc => ?_) <;> (try simp only [hcL] at hc) <;> try omega) | simp (disch := omega) only [go_sem, simprocAttr] | apply And.intro | omega | decide +kernel
   refine pw_loopI (κ := Nat) (fun (j : Nat) => j ≤ PL.length) (fun (j : Nat) => [(6, .ptr 6 0 0 0), (8, .ptr 8 0 0 0), (62, .d (.sl (PL.map pairD))), (63, .int PL.length), (64, .int j)]) (fun (j : Nat) => [(6, .cells [.int 0, .nilS]), (8, .cells [.int ((tot ls + ar.length : Nat) : Int), .ref 901 4 0 (C j).length (C j).length]), (901, .row 4 ((C j).map bdD))]) (fun (j : Nat) => PL.length - j) 0 ?_ ?_ ?_
   ·exact Nat.zero_le _
   ·exact eL [] _ _ (by refine ⟨?_, ?_⟩ <;> (repeat' first | exact fmn | refine fmc ⟨(by first | rfl | (simp (disch := omega) only [go_sem, simprocAttr, inL, hC0]; first | done | omega | (congr 1; done))), ?_⟩); done)
   ·intro j hj
    have hlj := hCl j
    rcases Nat.lt_or_ge j PL.length with hlt | hge
    ·obtain ⟨⟨u, v, p, z⟩, hq⟩ := get_some hlt
     have hz := hpz _ (List.mem_of_getElem? hq)
     dsimp only at hz
     subst hz
     have hs := hCs j _ hq
     repeat' first | refine pw_step rfl ?_ | refine pw_ret ?_ | refine wR ?_ | (refine wpG_split rfl rfl (fun hc => ?_) (fun hc => ?_) <;> try simp only [hcL] at hc) | (refine pw_cond _ rfl rfl (fun hc => ?_) (fun hc => ?_) <;> (try simp only [hcL] at hc) <;> try omega) | simp (disch := omega) only [go_sem, simprocAttr, hq, roomy, take_map_len] | exact bd_cells (u, v, p, 0) | apply And.intro | omega | decide +kernel
     refine ⟨j + 1, ?_, eL [(901, 78)] _ _ (by refine ⟨?_, ?_⟩ <;> (repeat' first | exact fmn | refine fmc ⟨(by first | rfl | (simp (disch := omega) only [go_sem, simprocAttr, inL, hs, List.length_append, List.length_singleton, List.map_append, List.map_cons, List.map_nil]; first | done | omega | (congr 1; done))), ?_⟩); done), ?_⟩
     ·omega
     ·omega
    ·have hj : j = PL.length := by omega
     subst hj
     repeat' first | refine pw_step rfl ?_ | refine pw_ret ?_ | refine wR ?_ | (refine wpG_split rfl rfl (fun hc => ?_) (fun hc => ?_) <;> try simp only [hcL] at hc) | (refine pw_cond _ rfl rfl (fun hc => ?_) (fun hc => ?_) <;> (try simp only [hcL] at hc) <;> try omega) | simp (disch := omega) only [go_sem, simprocAttr] | apply And.intro | omega | decide +kernel
     refine ⟨_, rfl, ⟨_, _, _, _, rfl, ?_⟩, ?_, trivial⟩
     ·simp (disch := omega) only [go_sem, simprocAttr]
      rw [List.take_of_length_le (by simp)]
     ·rfl
theorem rdistance_spec {a : Lv} {ws : List Int} {sep : Int} (h : VA a ws sep) (u v : Int) (hu : 0 ≤ u) (hv : 0 ≤ v) : CallsTo Try.prog 29 [intsD ws, .int sep, .int u, .int v] (.int (apF ws sep u v)) := by
 have w1 := rwidth_spec ws u hu
 have w2 := rwidth_spec ws v hv
 have b1 := wid_in h u
 have b2 := wid_in h v
 have b3 := h.sep
 have hq : (widF ws u + widF ws v + 1).tdiv 2 + sep = apF ws sep u v := by
  rw [apF, Int.tdiv_eq_ediv_of_nonneg (by omega)]
 have hap := ap_in h u v
 refine callsTo_of Try.func29 rfl (by decide +kernel) (Nat.le_of_ble_eq_true rfl) ?_
 intro hat B X w0
 repeat' first | refine pw_step rfl ?_ | refine pw_ret ?_ | refine wR ?_ | (refine rc (w1) rfl ?_ ?_; (· first | rfl | simp (disch := omega) only [go_sem, simprocAttr, hq])) | (refine rc (w2) rfl ?_ ?_; (· first | rfl | simp (disch := omega) only [go_sem, simprocAttr, hq])) | (refine wpG_split rfl rfl (fun hc => ?_) (fun hc => ?_) <;> try simp only [hcL] at hc) | (refine pw_cond _ rfl rfl (fun hc => ?_) (fun hc => ?_) <;> (try simp only [hcL] at hc) <;> try omega) | simp (disch := omega) only [go_sem, simprocAttr, hq] | apply And.intro | omega | decide +kernel
 exact rfl
set_option maxHeartbeats 8000000 in
theorem rNet_spec (a : Lv) (ws : List Int) (sep : Int) (hw : wide a) (h : VA a ws sep) (hal : a.2.2.1.length ≤ 1000) : CallsTo Try.prog 11 [lvD a, intsD ws, .int sep] (.tup [nD (netF a ws sep), .int 0]) := by
 have hv := rvalid_spec a ws sep hw
 rw [h.ok] at hv
 have ht := h.tt
 have hl := h.ls
 have hvt := h.vert
 have hvx := rvertices_spec a (by omega)
 have hds := rdistance_spec h
 have hwt := rweight_spec a
 have hap := ap_in h
 rw [netF]
 have hab := arcsB_len a
 have hsa := @arcsB_succ a
 have hbc := arcB_cells a
 revert hab hsa hbc
 unfold arcB
 generalize arcsB a = AB
 intro hab hsa hbc
 obtain ⟨n, ls, ar, cs⟩ := a
 dsimp only at ht hl hvt hvx hds hwt hab hsa hbc hal ⊢
 refine callsTo_of Try.func11 rfl (by decide +kernel) (Nat.le_of_ble_eq_true rfl) ?_
 intro hat B X w0
 have e0 : (tot ls : Int) + ar.length = ((tot ls + ar.length : Nat) : Int) := by omega
 repeat' first | refine pw_step rfl ?_ | refine pw_ret ?_ | refine wR ?_ | (refine rc (hv) rfl ?_ ?_; (· first | rfl | simp (disch := omega) only [go_sem, simprocAttr, e0])) | (refine rc (hvx) rfl ?_ ?_; (· first | rfl | simp (disch := omega) only [go_sem, simprocAttr, e0])) | (refine wpG_split rfl rfl (fun hc => ?_) (fun hc => ?_) <;> try simp only [hcL] at hc) | (refine pw_cond _ rfl rfl (fun hc => ?_) (fun hc => ?_) <;> (try simp only [hcL] at hc) <;> try omega) | simp (disch := omega) only [go_sem, simprocAttr, e0] | apply And.intro | omega | decide +kernel
 refine pw_ent _ (ent_nilC 9 1 901 4 rfl rfl rfl) ?_
 refine pw_loopI (κ := Nat) (fun (k : Nat) => k ≤ ar.length) (fun (k : Nat) => [(1, .d (intsD ws)), (2, .int sep), (3, .ptr 3 0 0 0), (6, .ptr 6 0 0 0), (8, .int (tot ls)), (9, .ptr 9 0 0 0), (10, .int k)]) (fun (k : Nat) => [(3, .cells [.int n, .d (listsD ls), .d (arcsD ar), .d (listsD cs)]), (6, .cells [.int 0, .nilS]), (9, .cells [.int ((tot ls + ar.length : Nat) : Int), .ref 901 4 0 (AB k).length (AB k).length]), (901, .row 4 ((AB k).map bdD))]) (fun (k : Nat) => ar.length - k) 0 ?_ ?_ ?_
 ·exact Nat.zero_le _
 ·have hz : AB 0 = [] := List.length_eq_zero_iff.1 (hab 0 (by omega))
  exact eL [] _ _ (by refine ⟨?_, ?_⟩ <;> (repeat' first | exact fmn | refine fmc ⟨(by first | rfl | (simp (disch := omega) only [go_sem, simprocAttr, inL, hz]; first | done | omega | (congr 1; done))), ?_⟩); done)
 ·intro k hk
  have hkl := hab k hk
  rcases Nat.lt_or_ge k ar.length with hlt | hge
  ·obtain ⟨x, hx⟩ := get_some hlt
   have hs := hsa hx
   have hw1 := hwt x
   have hT : ∀ d : D, List.take ((AB k).length + 1) (List.map bdD (AB k) ++ [d]) = List.map bdD (AB k) ++ [d] := fun d => List.take_of_length_le (by simp)
   have e1 : (tot ls : Int) + k = ((tot ls + k : Nat) : Int) := by omega
   revert hs hw1
   generalize wgtF n x = wg
   intro hs hw1
   repeat' first | refine pw_step rfl ?_ | refine pw_ret ?_ | refine wR ?_ | (refine rc (hw1) rfl ?_ ?_; (· first | rfl | simp (disch := omega) only [go_sem, simprocAttr, hx, e1, roomy, take_map_len, List.length_append, List.length_singleton])) | (refine wpG_split rfl rfl (fun hc => ?_) (fun hc => ?_) <;> try simp only [hcL] at hc) | (refine pw_cond _ rfl rfl (fun hc => ?_) (fun hc => ?_) <;> (try simp only [hcL] at hc) <;> try omega) | simp (disch := omega) only [go_sem, simprocAttr, hx, e1, roomy, take_map_len, List.length_append, List.length_singleton] | (first | exact bd_cells (((tot ls + k : Nat) : Int), x.1, 0, wg) | exact bd_cells (((tot ls + k : Nat) : Int), x.2, 0, wg)) | apply And.intro | omega | decide +kernel
   refine ⟨k + 1, ?_, eL [(901, 68)] _ _ (by refine ⟨?_, ?_⟩ <;> (repeat' first | exact fmn | refine fmc ⟨(by first | rfl | (simp (disch := omega) only [go_sem, simprocAttr, inL, hs, hT, List.length_append, List.length_cons, List.length_nil, List.map_append, List.map_cons, List.map_nil, List.append_assoc, List.cons_append, List.nil_append]; first | done | omega | (congr 1; done))), ?_⟩); done), ?_⟩
   ·omega
   ·omega
  ·have hk : k = ar.length := by omega
   subst hk
   have hCl : ∀ k, k ≤ ls.length → (AB ar.length ++ allP ws sep ls k).length ≤ 3000 := fun k hk => by
    have h1 := allP_len ws sep ls k hk
    have h2 := tot_take_le ls k
    rw [List.length_append]; omega
   repeat' first | refine pw_step rfl ?_ | refine pw_ret ?_ | refine wR ?_ | (refine wpG_split rfl rfl (fun hc => ?_) (fun hc => ?_) <;> try simp only [hcL] at hc) | (refine pw_cond _ rfl rfl (fun hc => ?_) (fun hc => ?_) <;> (try simp only [hcL] at hc) <;> try omega) | simp (disch := omega) only [go_sem, simprocAttr] | apply And.intro | omega | decide +kernel
   refine pw_loopI (κ := Nat) (fun (i : Nat) => i ≤ ls.length) (fun (i : Nat) => [(1, .d (intsD ws)), (2, .int sep), (3, .ptr 3 0 0 0), (6, .ptr 6 0 0 0), (9, .ptr 9 0 0 0), (12, .int i)]) (fun (i : Nat) => [(3, .cells [.int n, .d (listsD ls), .d (arcsD ar), .d (listsD cs)]), (6, .cells [.int 0, .nilS]), (9, .cells [.int ((tot ls + ar.length : Nat) : Int), .ref 901 4 0 (AB ar.length ++ allP ws sep ls i).length (AB ar.length ++ allP ws sep ls i).length]), (901, .row 4 ((AB ar.length ++ allP ws sep ls i).map bdD))]) (fun (i : Nat) => ls.length - i) 0 ?_ ?_ ?_
   ·exact Nat.zero_le _
   ·exact eL [] _ _ (by refine ⟨?_, ?_⟩ <;> (repeat' first | exact fmn | refine fmc ⟨(by first | rfl | (simp (disch := omega) only [go_sem, simprocAttr, inL, allP, catN, List.append_nil]; first | done | omega | (congr 1; done))), ?_⟩); done)
   ·intro i hi
    have hil := hCl i hi
    rcases Nat.lt_or_ge i ls.length with hlt | hge
    ·obtain ⟨x, hx⟩ := get_some hlt
     have hxv := hvt x (List.mem_of_getElem? hx)
     have hxl := tot_mem (List.mem_of_getElem? hx)
     have hil2 := hCl (i + 1) hlt
     obtain ⟨E, hE⟩ : ∃ E : Nat → List Bd, E = fun j => AB ar.length ++ curP ws sep ls i x j := ⟨_, rfl⟩
     have hE1 : AB ar.length ++ allP ws sep ls i = E 1 := by rw [hE]; simp only [curP_one]
     have hEe : ∀ j, j - 1 = x.length - 1 → AB ar.length ++ allP ws sep ls (i + 1) = E j := fun j hj => by rw [hE]; simp only [curP_end hx hj]
     have hEs : ∀ (j : Nat) u v, 1 ≤ j → x[j - 1]? = some u → x[j]? = some v → E (j + 1) = E j ++ [(u, v, apF ws sep u v, 0)] := fun j u v h1 h2 h3 => by simp only [hE]; rw [curP_step h1 h2 h3, List.append_assoc]
     have hEl : ∀ j, j - 1 ≤ x.length - 1 → (E j).length ≤ 4000 := fun j hj => by
      simp only [hE, curP]
      rw [← List.append_assoc, List.length_append, prN_len]; omega
     rw [hE1]
     repeat' first | refine pw_step rfl ?_ | refine pw_ret ?_ | refine wR ?_ | (refine wpG_split rfl rfl (fun hc => ?_) (fun hc => ?_) <;> try simp only [hcL] at hc) | (refine pw_cond _ rfl rfl (fun hc => ?_) (fun hc => ?_) <;> (try simp only [hcL] at hc) <;> try omega) | simp (disch := omega) only [go_sem, simprocAttr, hx] | apply And.intro | omega | decide +kernel
     refine pw_loopI (κ := Nat) (fun (j : Nat) => 1 ≤ j ∧ j - 1 ≤ x.length - 1) (fun (j : Nat) => [(1, .d (intsD ws)), (2, .int sep), (3, .ptr 3 0 0 0), (6, .ptr 6 0 0 0), (9, .ptr 9 0 0 0), (12, .int i), (13, .int j)]) (fun (j : Nat) => [(3, .cells [.int n, .d (listsD ls), .d (arcsD ar), .d (listsD cs)]), (6, .cells [.int 0, .nilS]), (9, .cells [.int ((tot ls + ar.length : Nat) : Int), .ref 901 4 0 (E j).length (E j).length]), (901, .row 4 ((E j).map bdD))]) (fun (j : Nat) => x.length - j) 1 ?_ ?_ ?_
     ·omega
     ·exact eL [] _ _ (by refine ⟨?_, ?_⟩ <;> (repeat' first | exact fmn | refine fmc ⟨(by first | rfl | (simp (disch := omega) only [go_sem, simprocAttr, inL]; first | done | omega | (congr 1; done))), ?_⟩); done)
     ·rintro j ⟨hj1, hj⟩
      have hlj := hEl j hj
      rcases Nat.lt_or_ge j x.length with hjl | hjl
      ·obtain ⟨u, g1⟩ := get_some (show j - 1 < x.length by omega)
       obtain ⟨v, g2⟩ := get_some hjl
       have i1 := hxv _ (List.mem_of_getElem? g1)
       have i2 := hxv _ (List.mem_of_getElem? g2)
       have e1 : (j : Int) - 1 = (j - 1 : Nat) := by omega
       have hd := hds u v i1.1 i2.1
       have hp := hEs j u v hj1 g1 g2
       have hq := hap u v
       repeat' first | refine pw_step rfl ?_ | refine pw_ret ?_ | refine wR ?_ | (refine rc (hd) rfl ?_ ?_; (· first | rfl | simp (disch := omega) only [go_sem, simprocAttr, hx, e1, g1, g2, roomy, take_map_len])) | (refine wpG_split rfl rfl (fun hc => ?_) (fun hc => ?_) <;> try simp only [hcL] at hc) | (refine pw_cond _ rfl rfl (fun hc => ?_) (fun hc => ?_) <;> (try simp only [hcL] at hc) <;> try omega) | simp (disch := omega) only [go_sem, simprocAttr, hx, e1, g1, g2, roomy, take_map_len] | exact bd_cells (u, v, apF ws sep u v, 0) | apply And.intro | omega | decide +kernel
       refine ⟨j + 1, ?_, eL [(901, 115)] _ _ (by refine ⟨?_, ?_⟩ <;> (repeat' first | exact fmn | refine fmc ⟨(by first | rfl | (simp (disch := omega) only [go_sem, simprocAttr, inL, hp, List.length_append, List.length_singleton, List.map_append, List.map_cons, List.map_nil]; first | done | omega | (congr 1; done))), ?_⟩); done), ?_⟩
       ·omega
       ·omega
      ·have hj : j - 1 = x.length - 1 := by omega
       have hs := hEe j hj
       repeat' first | refine pw_step rfl ?_ | refine pw_ret ?_ | refine wR ?_ | (refine wpG_split rfl rfl (fun hc => ?_) (fun hc => ?_) <;> try simp only [hcL] at hc) | (refine pw_cond _ rfl rfl (fun hc => ?_) (fun hc => ?_) <;> (try simp only [hcL] at hc) <;> try omega) | simp (disch := omega) only [go_sem, simprocAttr, hx] | apply And.intro | omega | decide +kernel
       refine ⟨i + 1, ?_, eL [] _ _ (by refine ⟨?_, ?_⟩ <;> (repeat' first | exact fmn | refine fmc ⟨(by first | rfl | (simp (disch := omega) only [go_sem, simprocAttr, inL, hs]; first | done | omega | (congr 1; done))), ?_⟩); done), ?_⟩
       ·omega
       ·omega
    ·have hi : i = ls.length := by omega
     subst hi
     repeat' first | refine pw_step rfl ?_ | refine pw_ret ?_ | refine wR ?_ | (refine wpG_split rfl rfl (fun hc => ?_) (fun hc => ?_) <;> try simp only [hcL] at hc) | (refine pw_cond _ rfl rfl (fun hc => ?_) (fun hc => ?_) <;> (try simp only [hcL] at hc) <;> try omega) | simp (disch := omega) only [go_sem, simprocAttr] | apply And.intro | omega | decide +kernel
     refine ⟨_, rfl, ⟨_, _, _, _, rfl, ?_⟩, ?_, trivial⟩
     ·simp (disch := omega) only [go_sem, simprocAttr]
      rw [List.take_of_length_le (by simp)]
     ·rfl
end Go.Proofs.Ythbcmebhpabpnaa
