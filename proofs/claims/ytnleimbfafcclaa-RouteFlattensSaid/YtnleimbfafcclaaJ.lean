/- A flattened curve lies within the boxes of its pieces. -/
import Derived.Test.YtnleimbfafcclaaI
namespace Go.Proofs.Ytnleimbfafcclaa
open Go Go.PS Go.Proofs
set_option maxRecDepth 100000
set_option linter.unusedSimpArgs false
set_option linter.unusedVariables false
attribute [local irreducible] wpRun wpG CallsTo CallsM

def inBx (b : Bx) (x : Pt) : Prop := b.1 ≤ x.1 ∧ x.1 ≤ b.2.2.1 ∧ b.2.1 ≤ x.2 ∧ x.2 ≤ b.2.2.2
theorem inBx_mid {b : Bx} {x y : Pt} (h1 : inBx b x) (h2 : inBx b y) : inBx b (mid x y) := by
  simp only [inBx, mid] at *; omega
theorem inBx_jn {b e : Bx} {x : Pt} (h : inBx b x ∨ inBx e x) : inBx (jn b e) x := by
  simp only [inBx, jn] at *
  refine ⟨?_, ?_, ?_, ?_⟩ <;> split <;> rcases h with h | h <;> omega
theorem inBx_self (x : Pt) : inBx (bxOf x) x := by simp [inBx, bxOf]
theorem piece_in {B : Bx} : ∀ (n : Nat) (a b c d : Pt), inBx B a → inBx B b → inBx B c → inBx B d → ∀ x ∈ pieceF n a b c d, inBx B x := by
  intro n
  induction n with
  | zero => intro a b c d ha hb hc hd x hx; simp only [pieceF, List.mem_singleton] at hx; subst hx; exact hd
  | succ n ih =>
    intro a b c d ha hb hc hd x hx
    simp only [pieceF, List.mem_append] at hx
    have h1 := inBx_mid ha hb
    have h2 := inBx_mid hb hc
    have h3 := inBx_mid hc hd
    have h4 := inBx_mid h1 h2
    have h5 := inBx_mid h2 h3
    have h6 := inBx_mid h4 h5
    rcases hx with hx | hx
    · exact ih _ _ _ _ ha h1 h4 h6 x hx
    · exact ih _ _ _ _ h6 h5 h3 hd x hx
theorem piece_inR : ∀ (n : Nat) (a b c d : Pt), inR a → inR b → inR c → inR d → ∀ x ∈ pieceF n a b c d, inR x := by
  intro n
  induction n with
  | zero => intro a b c d ha hb hc hd x hx; simp only [pieceF, List.mem_singleton] at hx; subst hx; exact hd
  | succ n ih =>
    intro a b c d ha hb hc hd x hx
    simp only [pieceF, List.mem_append] at hx
    have h1 := mid_in ha hb
    have h2 := mid_in hb hc
    have h3 := mid_in hc hd
    have h4 := mid_in h1 h2
    have h5 := mid_in h2 h3
    have h6 := mid_in h4 h5
    rcases hx with hx | hx
    · exact ih _ _ _ _ ha h1 h4 h6 x hx
    · exact ih _ _ _ _ h6 h5 h3 hd x hx
theorem piece_last : ∀ (n : Nat) (a b c d : Pt), (pieceF n a b c d)[2 ^ n - 1]? = some d := by
  intro n
  induction n with
  | zero => intro a b c d; rfl
  | succ n ih =>
    intro a b c d
    have hp : 0 < 2 ^ n := Nat.pow_pos (by omega)
    simp only [pieceF]
    rw [List.getElem?_append_right (by rw [pieceF_len, Nat.pow_succ]; omega), pieceF_len, show 2 ^ (n + 1) - 1 - 2 ^ n = 2 ^ n - 1 by rw [Nat.pow_succ]; omega]
    exact ih _ _ _ _
theorem box_pts {c : List Pt} {i : Nat} {p q r s : Pt} (h1 : c[3 * i]? = some p) (h2 : c[3 * i + 1]? = some q) (h3 : c[3 * i + 2]? = some r) (h4 : c[3 * i + 3]? = some s) :
    boxN c i 3 = jn (jn (jn (bxOf p) (bxOf q)) (bxOf r)) (bxOf s) := by
  have hx2 : c[3 * i + 1 + 1]? = some r := h3
  have hx3 : c[3 * i + 1 + 2]? = some s := h4
  simp only [boxN, Nat.add_zero, h1, h2, hx2, hx3]
theorem jn_ok {a b : Bx} (h1 : bxOk a = true) (h2 : bxOk b = true) : bxOk (jn a b) = true := by
  simp only [bxOk, ptOk, Bool.and_eq_true, decide_eq_true_eq] at *
  simp only [jn]
  (repeat' apply And.intro) <;> (repeat' split) <;> omega
theorem ptOk_in {p : Pt} : ptOk p = true ↔ inR p := by simp [ptOk, inR]
/-- The points of a flattened curve, piece by piece. -/
theorem outF_at {c : List Pt} {n i : Nat} {p q r s : Pt} (hc : curveOk c = true) (hi : i < c.length / 3) (h1 : c[3 * i]? = some p) (h2 : c[3 * i + 1]? = some q) (h3 : c[3 * i + 2]? = some r) (h4 : c[3 * i + 3]? = some s) :
    ∀ m, i + 1 ≤ m → m ≤ c.length / 3 → ∀ k, k < 2 ^ n → (outF c n m)[i * 2 ^ n + 1 + k]? = (pieceF n p q r s)[k]? := by
  intro m
  induction m with
  | zero => intro h; omega
  | succ m ih =>
    intro hm hml k hk
    obtain ⟨g1, g2⟩ := curveOk_len hc
    obtain ⟨p', hp'⟩ := get_some (show 3 * m < c.length by omega)
    obtain ⟨q', hq'⟩ := get_some (show 3 * m + 1 < c.length by omega)
    obtain ⟨r', hr'⟩ := get_some (show 3 * m + 2 < c.length by omega)
    obtain ⟨s', hs'⟩ := get_some (show 3 * m + 3 < c.length by omega)
    have hlen := outF_len n hc m (by omega)
    rw [outF_succ hp' hq' hr' hs']
    by_cases hmi : m = i
    · subst hmi
      rw [h1] at hp'; rw [h2] at hq'; rw [h3] at hr'; rw [h4] at hs'
      cases hp'; cases hq'; cases hr'; cases hs'
      rw [List.getElem?_append_right (by omega), hlen]
      congr 1; omega
    · have hle : (i + 1) * 2 ^ n ≤ m * 2 ^ n := Nat.mul_le_mul_right _ (by omega)
      rw [Nat.add_mul] at hle
      rw [List.getElem?_append_left (by omega)]
      exact ih (by omega) (by omega) k hk
theorem outF_first {c : List Pt} {n : Nat} (hc : curveOk c = true) {p : Pt} (hp : c[0]? = some p) : ∀ m, (outF c n m)[0]? = some p := by
  intro m
  induction m with
  | zero => rw [outF_zero hp]; rfl
  | succ m ih =>
    have : (outF c n (m + 1)) = outF c n m ++ pieceAt c n m := by simp only [outF, catN, List.append_assoc]
    rw [this, List.getElem?_append_left (List.getElem?_eq_some_iff.1 ih).1]
    exact ih
/-- Where the pieces meet. -/
theorem outF_meet {c : List Pt} {n i : Nat} (hc : curveOk c = true) (hi : i ≤ c.length / 3) {s : Pt} (h4 : c[3 * i]? = some s) : (outF c n (c.length / 3))[i * 2 ^ n]? = some s := by
  cases i with
  | zero => rw [Nat.zero_mul]; exact outF_first hc h4 _
  | succ i =>
    obtain ⟨g1, g2⟩ := curveOk_len hc
    obtain ⟨p, hp⟩ := get_some (show 3 * i < c.length by omega)
    obtain ⟨q, hq⟩ := get_some (show 3 * i + 1 < c.length by omega)
    obtain ⟨r, hr⟩ := get_some (show 3 * i + 2 < c.length by omega)
    have hp2 : 0 < 2 ^ n := Nat.pow_pos (by omega)
    have := outF_at (n := n) hc (show i < c.length / 3 by omega) hp hq hr h4 (c.length / 3) (by omega) (Nat.le_refl _) (2 ^ n - 1) (by omega)
    rw [piece_last] at this
    rw [← this]
    congr 1; rw [Nat.add_mul]; omega
/-- A point of a piece lies in the piece's box. -/
theorem outF_box {c : List Pt} {n i k : Nat} (hc : curveOk c = true) (hi : i < c.length / 3) (hk : k ≤ 2 ^ n) :
    ∃ x, (outF c n (c.length / 3))[i * 2 ^ n + k]? = some x ∧ bxHas (boxN c i 3) x = true := by
  obtain ⟨g1, g2⟩ := curveOk_len hc
  obtain ⟨p, hp⟩ := get_some (show 3 * i < c.length by omega)
  obtain ⟨q, hq⟩ := get_some (show 3 * i + 1 < c.length by omega)
  obtain ⟨r, hr⟩ := get_some (show 3 * i + 2 < c.length by omega)
  obtain ⟨s, hs⟩ := get_some (show 3 * i + 3 < c.length by omega)
  have ip := curveOk_in hc hp
  have iq := curveOk_in hc hq
  have ir := curveOk_in hc hr
  have is := curveOk_in hc hs
  have hb := box_pts hp hq hr hs
  have hok : bxOk (boxN c i 3) = true := by
    rw [hb]
    refine jn_ok (jn_ok (jn_ok ?_ ?_) ?_) ?_ <;> rw [bxOf_ok] <;> exact ptOk_in.2 (by assumption)
  have b1 : inBx (boxN c i 3) p := by rw [hb]; exact inBx_jn (.inl (inBx_jn (.inl (inBx_jn (.inl (inBx_self p))))))
  have b2 : inBx (boxN c i 3) q := by rw [hb]; exact inBx_jn (.inl (inBx_jn (.inl (inBx_jn (.inr (inBx_self q))))))
  have b3 : inBx (boxN c i 3) r := by rw [hb]; exact inBx_jn (.inl (inBx_jn (.inr (inBx_self r))))
  have b4 : inBx (boxN c i 3) s := by rw [hb]; exact inBx_jn (.inr (inBx_self s))
  have fin : ∀ x, inBx (boxN c i 3) x → inR x → bxHas (boxN c i 3) x = true := by
    intro x h1 h2
    simp only [bxHas, hok, ptOk_in.2 h2, Bool.true_and, Bool.and_eq_true, decide_eq_true_eq]
    exact ⟨⟨⟨h1.1, h1.2.1⟩, h1.2.2.1⟩, h1.2.2.2⟩
  rcases Nat.eq_zero_or_pos k with h0 | h0
  · subst h0
    exact ⟨p, by rw [Nat.add_zero]; exact outF_meet hc (by omega) hp, fin p b1 ip⟩
  · have := outF_at (n := n) hc hi hp hq hr hs (c.length / 3) (by omega) (Nat.le_refl _) (k - 1) (by omega)
    rw [show i * 2 ^ n + 1 + (k - 1) = i * 2 ^ n + k by omega] at this
    obtain ⟨x, hx⟩ := get_some (l := pieceF n p q r s) (k := k - 1) (by rw [pieceF_len]; omega)
    rw [hx] at this
    have hm := List.mem_of_getElem? hx
    exact ⟨x, this, fin x (piece_in n p q r s b1 b2 b3 b4 x hm) (piece_inR n p q r s ip iq ir is x hm)⟩
theorem hullN_at (c : List Pt) : ∀ (m i : Nat), i < m → (hullN c m)[i]? = some (boxN c i 3) := by
  intro m
  induction m with
  | zero => intro i h; omega
  | succ m ih =>
    intro i hi
    have e : hullN c (m + 1) = hullN c m ++ [boxN c m 3] := rfl
    rw [e]
    by_cases h : i = m
    · subst h; rw [List.getElem?_append_right (by rw [hullN_len]; omega), hullN_len, Nat.sub_self]; rfl
    · rw [List.getElem?_append_left (by rw [hullN_len]; omega)]; exact ih i (by omega)
end Go.Proofs.Ytnleimbfafcclaa
