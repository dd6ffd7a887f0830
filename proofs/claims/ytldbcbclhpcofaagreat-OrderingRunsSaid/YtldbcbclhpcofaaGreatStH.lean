/- The reference's Inversions; costs, by the program and by the reference. -/
import Derived.Test.YtldbcbclhpcofaaGreatStB
import Derived.Test.YtldbcbclhpcofaaGreatCd
import Derived.Test.YtldbcbclhpcofaaGreatF
import Derived.Test.YtldbcbclhpcofaaGreatPSBridge
import Derived.Test.YtldbcbclhpcofaaGreatTypes
import Derived.Test.YtldbcbclhpcofaaGreatPSFam
set_option linter.unusedSimpArgs false
set_option linter.unusedVariables false
namespace Go.Proofs.YtldbcbclhpcofaaGreat
open Go Go.PS Go.Proofs
open Go.Bd (ix invF invN comN refN refB)
set_option maxRecDepth 100000
attribute [local irreducible] Zax wpG Zah Zai

theorem Zbo {l : List (List Int)} {k : Nat} {y : List Int} (h : l[k]? = some y) : lstN l k = y := by rw [lstN, h]; rfl
theorem lstN_out {l : List (List Int)} {k : Nat} (h : l.length ≤ k) : lstN l k = [] := by rw [lstN, List.getElem?_eq_none h]; rfl
def okW (a : Lv) (w : Int) : Bool := Zay a && decide (0 ≤ w ∧ w ≤ 1000)
def invS (a : Lv) (old : List (List Int)) (k : Nat) : Int := sumZ (fun i => (invF (lstN old i) (lstN a.2.1 i) : Int)) k
def costF (a : Lv) (old : List (List Int)) (w : Int) : Int := if okW a w then Zbg a + w * invS a old a.2.1.length else -1
theorem layer_le {a : Lv} (h : Zay a = true) (k : Nat) : (lstN a.2.1 k).length ≤ 512 := by
 obtain ⟨t1, t2⟩ := Zcq h
 rcases Nat.lt_or_ge k a.2.1.length with hlt | hge
 ·obtain ⟨y, hy⟩ := Zan hlt
  rw [Zbo hy]
  have := Zbq (List.mem_of_getElem? hy)
  omega
 ·rw [lstN_out hge]; simp
end Go.Proofs.YtldbcbclhpcofaaGreat
namespace Go.Proofs.YtldbcbclhpcofaaGreat
open Go Go.PS Go.Proofs
open Go.Bd (ix invF invN comN refN refB)
set_option maxRecDepth 100000
attribute [local irreducible] Zax wpG Zah Zai

def rowG (g : Nat → Int) (n : Nat) : List Int := (List.range n).map g
def mixR (f g : Nat → Int) (n b : Nat) : List Int := rowG (fun v => if v < b then g v else f v) n
theorem Zcr (g : Nat → Int) (n : Nat) : (rowG g n).length = n := by simp [rowG]
theorem rowG_get {g : Nat → Int} {n v : Nat} (h : v < n) : (rowG g n)[v]? = some (g v) := by simp [rowG, h]
theorem Zco {f g : Nat → Int} {n : Nat} (h : ∀ v, v < n → f v = g v) : rowG f n = rowG g n := List.map_congr_left fun v hv => h v (List.mem_range.1 hv)
theorem mixR_len (f g : Nat → Int) (n b : Nat) : (mixR f g n b).length = n := Zcr _ _
theorem mixR_zero (f g : Nat → Int) (n : Nat) : mixR f g n 0 = rowG f n := Zco fun v _ => if_neg (by omega)
theorem mixR_full (f g : Nat → Int) (n : Nat) : mixR f g n n = rowG g n := Zco fun v hv => if_pos hv
theorem mixR_get {f g : Nat → Int} {n b : Nat} (h : b < n) : (mixR f g n b)[b]? = some (f b) := by rw [mixR, rowG_get h, if_neg (by omega)]
theorem mixR_step {f g : Nat → Int} {n b : Nat} (h : b < n) : (mixR f g n b).set b (g b) = mixR f g n (b + 1) := by
 refine List.ext_getElem? fun v => ?_
 rw [List.getElem?_set, mixR_len]
 by_cases c : b = v
 ·subst c
  rw [if_pos rfl, if_pos h, mixR, rowG_get h, if_pos (by omega)]
 ·rw [if_neg c]
  by_cases c2 : v < n
  ·rw [mixR, mixR, rowG_get c2, rowG_get c2]
   by_cases c3 : v < b
   ·rw [if_pos c3, if_pos (by omega)]
   ·rw [if_neg c3, if_neg (by omega)]
  ·rw [List.getElem?_eq_none (by rw [mixR_len]; omega), List.getElem?_eq_none (by rw [mixR_len]; omega)]
theorem rowG_zero (n : Nat) : List.replicate n (D.int 0) = (rowG (fun _ => 0) n).map D.int := by
 rw [rowG, List.map_map]
 refine List.ext_getElem? fun v => ?_
 by_cases c : v < n <;> simp [List.getElem?_replicate, c]
def wCell (old y : List Int) (w : Int) (u v : Nat) : Int := if 0 ≤ ix old (at0 y v) ∧ ix old (at0 y v) < ix old (at0 y u) then w else 0
def fixT (i : Nat) (t : Nat) : Int := if t = 0 then (i : Int) - 1 else (i : Int) + 1
def accC (a : Lv) (old y : List Int) (w : Int) (i : Nat) : Nat → Nat → Nat → Int
 | 0, u, v => wCell old y w u v
 | t + 1, u, v => accC a old y w i t u v + Zao (Zau a i (fixT i t)) u v
def sqM (g : Nat → Nat → Int) (n : Nat) : List (List Int) := (List.range n).map fun u => rowG (g u) n
def stM (a : Lv) (old y : List Int) (w : Int) (i : Nat) : List (List Int) := sqM (accC a old y w i 2) y.length
theorem cellAt_le {m : List (List Int)} (h : Sq m) (u v : Nat) : 0 ≤ Zao m u v ∧ Zao m u v ≤ 1000000 := by
 by_cases hu : u < m.length
 ·by_cases hv : v < m.length
  ·obtain ⟨_, _, _, _, h1, h2⟩ := h.get hu hv
   exact ⟨h1, h2⟩
  ·obtain ⟨p, hp⟩ := Zan hu
   have := h.row p (List.mem_of_getElem? hp)
   rw [Zao, Zbo hp, at0, Int.toNat_natCast, List.getElem?_eq_none (by omega)]; decide
 ·rw [Zao, lstN_out (by omega)]; simp [at0]
theorem accC_le (a : Lv) (old y : List Int) {w : Int} (hw : 0 ≤ w ∧ w ≤ 1000) (i : Nat) : ∀ t u v, 0 ≤ accC a old y w i t u v ∧ accC a old y w i t u v ≤ 1000 + 1000000 * t
 | 0, u, v => by
  rw [accC, wCell]; split <;> omega
 | t + 1, u, v => by
  have ih := accC_le a old y hw i t u v
  have := cellAt_le (MatrixF_sq a i (fixT i t)) u v
  rw [accC]; omega
end Go.Proofs.YtldbcbclhpcofaaGreat
namespace Go.Proofs.YtldbcbclhpcofaaGreat
open Go Go.PS Go.Proofs
open Go.Bd (ix invF invN comN refN refB)
set_option maxRecDepth 100000
attribute [local irreducible] Zax wpG Zah Zai

end Go.Proofs.YtldbcbclhpcofaaGreat
namespace Go.Proofs.YtldbcbclhpcofaaGreat
open Go Go.PS Go.Proofs
open Go.Bd (ix invF invN comN refN refB)
set_option maxRecDepth 100000
attribute [local irreducible] Zax wpG Zah Zai

theorem rowG_succ (g : Nat → Int) (b : Nat) : rowG g (b + 1) = rowG g b ++ [g b] := by rw [rowG, List.range_succ, List.map_append]; rfl
end Go.Proofs.YtldbcbclhpcofaaGreat
namespace Go.Proofs.YtldbcbclhpcofaaGreat
open Go Go.PS Go.Proofs
open Go.Bd (ix invF invN comN sumC sumC_add sumC_mul invC Part bestF)

theorem cellAt_sq {g : Nat → Nat → Int} {n u v : Nat} (hu : u < n) (hv : v < n) : Zao (sqM g n) u v = g u v := by
 rw [Zao, sqM, lstN, List.getElem?_map, List.getElem?_range hu]
 simp only [Option.map_some, Option.getD_some]
 rw [at0, Int.toNat_natCast, rowG_get hv]; rfl
theorem stM_len (a : Lv) (old y : List Int) (w : Int) (i : Nat) : (stM a old y w i).length = y.length := by simp [stM, sqM]
def yG (y : List Int) (k : Nat) : Int := (y[k]?).getD 0
theorem wCell_inv (old y : List Int) (w : Int) (u v : Nat) : wCell old y w u v = w * invC old (yG y) u v := by
 have e : ∀ k : Nat, at0 y k = yG y k := fun k => by rw [at0, Int.toNat_natCast]; rfl
 rw [wCell, invC, e, e]
 by_cases h1 : yG y u ∈ old <;> by_cases h2 : yG y v ∈ old
 ·rw [ix_nat h1, ix_nat h2]
  by_cases h3 : old.idxOf (yG y v) < old.idxOf (yG y u)
  ·rw [if_pos ⟨by omega, by omega⟩, if_pos ⟨h1, h2, h3⟩, Int.mul_one]
  ·rw [if_neg (fun h => h3 (by omega)), if_neg (fun h => h3 h.2.2), Int.mul_zero]
 ·rw [if_neg (fun h => by
   have := h.1
   rw [ix, if_neg h2] at this; omega), if_neg (fun h => h2 h.2.1), Int.mul_zero]
 ·rw [if_neg (fun h => by
   have := h.2
   rw [ix_nat h2, ix, if_neg h1] at this; omega), if_neg (fun h => h1 h.1), Int.mul_zero]
 ·rw [if_neg (fun h => by
   have := h.1
   rw [ix, if_neg h2] at this; omega), if_neg (fun h => h1 h.1), Int.mul_zero]
theorem accC_two (a : Lv) (old y : List Int) (w : Int) (i : Nat) (u v : Nat) : accC a old y w i 2 u v = w * invC old (yG y) u v + bothC a i u v := by
 rw [← wCell_inv]
 show wCell old y w u v + Zao (Zau a i ((i : Int) - 1)) u v + Zao (Zau a i ((i : Int) + 1)) u v = _
 rw [bothC]; omega
theorem stM_sum (a : Lv) (old y : List Int) (w : Int) (i : Nat) {o : List Nat} (ho : Part y.length 0 o) :
  sumC (Zao (stM a old y w i)) o = w * sumC (invC old (yG y)) o + sumC (bothC a i) o := by
 rw [← sumC_mul, ← sumC_add]
 refine sumC_congr ho.nd fun u hu v hv _ => ?_
 rw [stM, cellAt_sq (ho.lt u hu) (ho.lt v hv), accC_two]
theorem Zct {a : Lv} (hv : Zay a = true) {i : Nat} {y : List Int} (hy : a.2.1[i]? = some y) : y.Nodup :=
 (List.pairwise_flatten.1 (Zcc hv)).1 y (List.mem_of_getElem? hy)
theorem permL_perm {y : List Int} {o : List Nat} (hn : y.Nodup) (ho : Part y.length 0 o) : (Zbl y o).Perm y :=
 (List.perm_ext_iff_of_nodup (permL_nodup hn ho) hn).2 fun _ => permL_mem ho
theorem reorder_put {a : Lv} (hv : Zay a = true) {i : Nat} {y : List Int} {o : List Nat} (hy : a.2.1[i]? = some y) (ho : Part y.length 0 o) : Zcj a i (Zbl y o) = (putL a i (Zbl y o), 0) := by
 have hil := (List.getElem?_eq_some_iff.1 hy).1
 rw [Zcj, if_neg (by rw [hv]; decide), if_neg (by omega), Int.toNat_natCast, hy, Option.getD_some, if_neg (by rw [sortL_congr (permL_perm (Zct hv hy) ho)]; simp)]
 rfl
end Go.Proofs.YtldbcbclhpcofaaGreat
namespace Go.Proofs.YtldbcbclhpcofaaGreat
open Go Go.PS Go.Proofs
open Go.Bd (sm ix invF invN comN sumC Part bestF)
set_option maxRecDepth 100000
attribute [local irreducible] Zax wpG Zah Zai

theorem cell_small (a : Lv) (i f : Int) (u v : Nat) : Zao (Zau a i f) u v ≤ ((a.2.2.1.length * a.2.2.1.length : Nat) : Int) := by
 have hz : Zao [] u v = 0 := by simp [Zao, lstN, at0]
 rw [Zau]
 split
 ·by_cases hu : u < (endsF a.2.1 a.2.2.1 i f (lenAt a i)).length
  ·by_cases hv : v < (endsF a.2.1 a.2.2.1 i f (lenAt a i)).length
   ·rw [cellAt_mat hu hv, cellF]
    split
    ·omega
    ·have hl : ∀ k, (lstN (endsF a.2.1 a.2.2.1 i f (lenAt a i)) k).length ≤ a.2.2.1.length := fun k => by
      by_cases hk : k < lenAt a i
      ·rw [endsF, lstN, List.getElem?_map, List.getElem?_range hk]
       exact endsN_len ..
      ·rw [lstN_out (by simp [endsF]; omega)]; exact Nat.zero_le _
     have := Nat.le_trans (behindF_le _ _) (Nat.mul_le_mul (hl u) (hl v))
     omega
   ·have : Zao (matF (endsF a.2.1 a.2.2.1 i f (lenAt a i))) u v = 0 := by
     rw [Zao, matF, lstN, List.getElem?_map, List.getElem?_range hu]
     simp only [Option.map_some, Option.getD_some]
     rw [at0, Int.toNat_natCast, List.getElem?_eq_none (by simp; omega)]; rfl
    omega
  ·have : Zao (matF (endsF a.2.1 a.2.2.1 i f (lenAt a i))) u v = 0 := by
    rw [Zao, lstN_out (by rw [matF]; simp; omega)]; simp [at0]
   omega
 ·rw [hz]; omega
theorem stM_ok {a : Lv} {old y : List Int} {w : Int} {i : Nat} (hw : 0 ≤ w ∧ w ≤ 1000) (har : a.2.2.1.length ≤ 700) (hy : y.length ≤ 8) : okM (stM a old y w i) = true := by
 refine sq_ok ⟨by rw [stM_len]; omega, fun p hp => ?_, fun p hp x hx => ?_⟩ (by rw [stM_len]; exact hy)
 ·rw [stM_len]
  obtain ⟨u, _, rfl⟩ := List.mem_map.1 hp
  exact Zcr _ _
 ·obtain ⟨u, _, rfl⟩ := List.mem_map.1 hp
  obtain ⟨v, _, rfl⟩ := List.mem_map.1 hx
  have hb : a.2.2.1.length * a.2.2.1.length ≤ 490000 := Nat.le_trans (Nat.mul_le_mul har har) (by decide)
  have h1 := cell_small a i ((i : Int) - 1) u v
  have h2 := cell_small a i ((i : Int) + 1) u v
  have h3 := (accC_le a old y hw i 2 u v).1
  have h4 := (accC_le a old y hw i 0 u v).2
  have e : accC a old y w i 2 u v = accC a old y w i 0 u v + Zao (Zau a i ((i : Int) - 1)) u v + Zao (Zau a i ((i : Int) + 1)) u v := rfl
  omega
theorem bestAll_part (m : List (List Int)) : Part m.length 0 (Zbm m).1 ∧ (Zbm m).2 = sumC (Zao m) (Zbm m).1 := by
 obtain ⟨h1, _, h3⟩ := Go.Bd.best_of (Zao m) m.length [] (part_nil _) _ (bestAll_eq m)
 exact ⟨h1, h3⟩
theorem cloneO_spec (l : List Int) (hn : l.length ≤ 1000000) : Zai Tryz.prog 62 [.d (Zak l)] [(2000, .dead)] (.ref 2000 1 0 l.length l.length) [(2000, .row 1 (l.map D.int))] := by
 rcases Decidable.em (l = []) with rfl | hl
 ·refine Zag Tryz.func62 rfl (by decide +kernel) (Nat.le_of_ble_eq_true rfl) rfl (Zba rfl) rfl rfl rfl ?_
  intro B X w0
  refine Zcs ?_
  repeat' first | refine Zad rfl ?_ | refine Zac ?_ | refine wR ?_ | (refine Zaa rfl rfl (fun hc => ?_) (fun hc => ?_) <;> try simp only [hcL] at hc) | (refine Zab _ rfl rfl (fun hc => ?_) (fun hc => ?_) <;> (try simp only [hcL] at hc) <;> try omega) | simp (disch := omega) only [go_sem, simprocAttr] | apply And.intro | omega | decide +kernel
  refine pw_anyb 4 rfl ?_
  intro b
  cases b
  ·repeat' first | refine Zad rfl ?_ | refine Zac ?_ | refine Zcx (Nat.beq 5) hmix ?_ | (refine Zaa rfl rfl (fun hc => ?_) (fun hc => ?_) <;> try simp only [hcL] at hc) | (refine Zab _ rfl rfl (fun hc => ?_) (fun hc => ?_) <;> (try simp only [hcL] at hc) <;> try omega) | simp (disch := omega) only [go_sem, simprocAttr, Zbb] | apply And.intro | omega | decide +kernel
   refine ⟨_, Zbh.1 (eL [(2000, 7)] [(2, .ref 2000 1 0 0 0)] [(2000, .row 1 [])] (by refine ⟨?_, ?_⟩ <;> (repeat' first | exact fmn | refine fmc ⟨(by first | rfl | (simp (disch := omega) only [go_sem, simprocAttr, inL]; first | done | omega | (congr 1; done))), ?_⟩); done)), ?_⟩
   exact ⟨rfl, List.forall_mem_cons.2 ⟨rfl, List.forall_mem_nil _⟩⟩
  ·repeat' first | refine Zad rfl ?_ | refine Zac ?_ | refine wR ?_ | (refine Zaa rfl rfl (fun hc => ?_) (fun hc => ?_) <;> try simp only [hcL] at hc) | (refine Zab _ rfl rfl (fun hc => ?_) (fun hc => ?_) <;> (try simp only [hcL] at hc) <;> try omega) | simp (disch := omega) only [go_sem, simprocAttr] | apply And.intro | omega | decide +kernel
   refine ⟨_, Ent.trans (ent_nil 2 7 1 rfl rfl) (Zbh.1 (eL [(2000, 7)] [(2, .ref 2000 1 0 0 0)] [(2000, .row 1 [])] (by constructor <;> (repeat' first | exact List.forall_mem_nil _ | refine List.forall_mem_cons.2 ⟨rfl, ?_⟩)))), ?_⟩
   exact ⟨rfl, List.forall_mem_cons.2 ⟨rfl, List.forall_mem_nil _⟩⟩
 ·have he : (l.map D.int).isEmpty = false := by simpa using hl
  have hpos : 0 < l.length := List.length_pos_iff.2 hl
  refine Zag Tryz.func62 rfl (by decide +kernel) (Nat.le_of_ble_eq_true rfl) rfl (Zba rfl) rfl rfl rfl ?_
  intro B X w0
  refine Zcs ?_
  repeat' first | refine Zad rfl ?_ | refine Zac ?_ | refine Zcx (Nat.beq 5) hmix ?_ | (refine Zaa rfl rfl (fun hc => ?_) (fun hc => ?_) <;> try simp only [hcL] at hc) | (refine Zab _ rfl rfl (fun hc => ?_) (fun hc => ?_) <;> (try simp only [hcL] at hc) <;> try omega) | simp (disch := omega) only [go_sem, simprocAttr, he, Zbb, Zae] | exact Zbs l | apply And.intro | omega | decide +kernel
  refine ⟨_, Zbh.1 (eL [(2000, 7)] [(2, .ref 2000 1 0 l.length l.length)] [(2000, .row 1 (l.map D.int))] (by refine ⟨?_, ?_⟩ <;> (repeat' first | exact fmn | refine fmc ⟨(by first | rfl | (simp (disch := omega) only [go_sem, simprocAttr, inL]; first | done | omega | (congr 1; done))), ?_⟩); done)), ?_⟩
  exact ⟨rfl, List.forall_mem_cons.2 ⟨rfl, List.forall_mem_nil _⟩⟩
def nowS (m : List (List Int)) (A : Nat) : Int := sm (fun A => sm (fun j => Zao m A (A + 1 + j)) (m.length - 1 - A)) A
theorem now_in {m : List (List Int)} (hs : Sq m) (A j : Nat) : 0 ≤ sm (fun j => Zao m A (A + 1 + j)) j ∧ sm (fun j => Zao m A (A + 1 + j)) j ≤ 1000000 * j := Go.Bd.sm_bounds j fun k _ => cellAt_le hs A (A + 1 + k)
theorem now_le {m : List (List Int)} (hs : Sq m) (h8 : m.length ≤ 8) (A : Nat) : 0 ≤ nowS m A ∧ nowS m A ≤ 8000000 * A :=
 Go.Bd.sm_bounds A fun k _ => by
  have := now_in hs k (m.length - 1 - k)
  omega
end Go.Proofs.YtldbcbclhpcofaaGreat
namespace Go.Proofs.YtldbcbclhpcofaaGreat
open Go Go.PS Go.Proofs
open Go.Bd (sm ix invF invN comN sumC Part bestF)
set_option maxRecDepth 100000
attribute [local irreducible] Zax wpG Zah Zai

end Go.Proofs.YtldbcbclhpcofaaGreat
namespace Go.Proofs.YtldbcbclhpcofaaGreat
open Go Go.PS Go.Proofs
open Go.Bd (sm ix invF invN comN sumC Part bestF)
set_option maxRecDepth 100000
attribute [local irreducible] Zax wpG Zah Zai

end Go.Proofs.YtldbcbclhpcofaaGreat
namespace Go.Proofs.YtldbcbclhpcofaaGreat
open Go Go.PS Go.Proofs
open Go.Bd (sm ix invF invN comN sumC Part bestF)
set_option maxRecDepth 100000
attribute [local irreducible] Zax wpG Zah Zai

end Go.Proofs.YtldbcbclhpcofaaGreat
namespace Go.Proofs.YtldbcbclhpcofaaGreat
open Go Go.PS Go.Proofs
open Go.Bd (sm ix invF invN comN sumC Part bestF)
set_option maxRecDepth 100000
attribute [local irreducible] Zax wpG Zah Zai

theorem sum_nil {a : Lv} (h : Zay a = true) : costF a [] 7 = Zbg a := by
 have hz : ∀ k, invS a [] k = 0 := by
  intro k
  induction k with
  | zero => rfl
  | succ k ih =>
   have s1 : invS a [] (k + 1) = invS a [] k + (invF (lstN [] k) (lstN a.2.1 k) : Int) := rfl
   have s2 : ∀ (l : List Int) i, comN [] l i = [] := by
    intro l i
    induction i with
    | zero => rfl
    | succ i ihi => rw [comN]; split <;> simp [ihi]
   have s3 : lstN [] k = [] := lstN_out (Nat.zero_le _)
   rw [s1, ih, s3, invF, s2]; rfl
 rw [costF, if_pos (by rw [okW, h]; decide), hz]; omega
end Go.Proofs.YtldbcbclhpcofaaGreat
namespace Go.Proofs.YtldbcbclhpcofaaGreat
open Go Go.PS Go.Proofs
open Go.Bd (comN comO keptF cntN)
set_option maxRecDepth 100000
attribute [local irreducible] Zax wpG Zah Zai

end Go.Proofs.YtldbcbclhpcofaaGreat
namespace Go.Proofs.YtldbcbclhpcofaaGreat
open Go Go.PS Go.Proofs
open Go.Bd (invF comN comO keptF sumC Part)

theorem reorder_perm {a : Lv} (hv : Zay a = true) {i : Nat} {y z : List Int} (hy : a.2.1[i]? = some y) (hz : z.Perm y) : Zcj a i z = (putL a i z, 0) := by
 have hil := (List.getElem?_eq_some_iff.1 hy).1
 rw [Zcj, if_neg (by rw [hv]; decide), if_neg (by omega), Int.toNat_natCast, hy, Option.getD_some, if_neg (by rw [sortL_congr hz]; simp)]
 rfl
theorem perm_valid {a : Lv} (hv : Zay a = true) {i : Nat} {y z : List Int} (hy : a.2.1[i]? = some y) (hz : z.Perm y) : Zay (putL a i z) = true := by
 have h := reorder_perm hv hy hz
 have := reorder_valid (a := a) (i := i) (o := z) (by rw [h])
 rw [h] at this; exact this
structure Kin (a b : Lv) : Prop where
 ok : Zay b = true
 wd : wide b
 len : b.2.1.length = a.2.1.length
 arcs : b.2.2.1 = a.2.2.1
 perm : ∀ k, (lstN b.2.1 k).Perm (lstN a.2.1 k)
theorem Kin.refl {a : Lv} (hv : Zay a = true) (hw : wide a) : Kin a a := ⟨hv, hw, rfl, rfl, fun _ => List.Perm.refl _⟩
theorem Kin.put {a b : Lv} (h : Kin a b) {i : Nat} {y z : List Int} (hy : b.2.1[i]? = some y) (hz : z.Perm y) : Kin a (putL b i z) := by
 have hil := (List.getElem?_eq_some_iff.1 hy).1
 have hyl : y.length ≤ 512 := by have := layer_le h.ok i; rw [Zbo hy] at this; exact this
 refine ⟨perm_valid h.ok hy hz, ?_, ?_, h.arcs, fun k => ?_⟩
 ·have := reorder_wide (a := b) (i := i) (o := z) h.wd (by have := hz.length_eq; omega)
  rw [reorder_perm h.ok hy hz] at this; exact this
 ·rw [← h.len]; exact List.length_set
 ·have hl : (putL b i z).2.1 = b.2.1.set i z := rfl
  by_cases c : k = i
  ·subst c
   have hs : lstN (b.2.1.set k z) k = z := by rw [lstN, List.getElem?_set, if_pos rfl, if_pos hil]; rfl
   rw [hl, hs]
   have := h.perm k
   rw [Zbo hy] at this
   exact hz.trans this
  ·have : lstN (b.2.1.set i z) k = lstN b.2.1 k := by rw [lstN, lstN, List.getElem?_set, if_neg (fun h => c h.symm)]
   rw [hl, this]; exact h.perm k
theorem Kin.lay {a b : Lv} (h : Kin a b) {k : Nat} (hk : k < a.2.1.length) : b.2.1[k]? = some (lstN b.2.1 k) := by
 obtain ⟨y, hy⟩ := Zan (l := b.2.1) (k := k) (by have := h.len; omega)
 rw [Zbo hy]; exact hy
end Go.Proofs.YtldbcbclhpcofaaGreat
namespace Go.Proofs.YtldbcbclhpcofaaGreat
open Go Go.PS Go.Proofs
set_option maxRecDepth 100000
attribute [local irreducible] Zax wpG Zah Zai

abbrev elD (v : Nat → Int) (p : Nat → List D) (k : Nat) : D := .ag [.int (v k), .sl (p k)]
theorem swap_main (v : Nat → Int) (p : Nat → List D) (g : Nat) (a b n N : Nat) (L : Nat → List Nat) (hlen : ∀ i, (L i).length = N) (hN : N ≤ 1000000) (ha : a + n ≤ N) (hb : b + n ≤ N)
  (hstep : ∀ i, i < n → ∃ u w, (L i)[a + i]? = some u ∧ (L i)[b + i]? = some w ∧ ((L i).set (a + i) w).set (b + i) u = L (i + 1)) :
  Zai Tryz.prog 133 [.ref 1000 2 0 N N, .int a, .int b, .int n, .d (.fn g [])] [(1000, .row 2 ((L 0).map (elD v p)))] (.tup []) [(1000, .row 2 ((L n).map (elD v p)))] := by
 refine Zag Tryz.func133 rfl (by decide +kernel) (Nat.le_of_ble_eq_true rfl) rfl (Zba rfl) rfl rfl rfl ?_
 intro B X w0
 refine Zcs ?_
 repeat' first | refine Zad rfl ?_ | refine Zac ?_ | refine wR ?_ | (refine Zaa rfl rfl (fun hc => ?_) (fun hc => ?_) <;> try simp only [hcL] at hc) | (refine Zab _ rfl rfl (fun hc => ?_) (fun hc => ?_) <;> (try simp only [hcL] at hc) <;> try omega) | simp (disch := omega) only [go_sem, simprocAttr] | apply And.intro | omega | decide +kernel
 refine Zap (κ := Nat) (fun (i : Nat) => i ≤ n) (fun (i : Nat) => [(0, .ref 1000 2 0 N N), (1, .int a), (2, .int b), (3, .int n), (10, .int i)]) (fun (i : Nat) => [(1000, .row 2 ((L i).map (elD v p)))]) (fun (i : Nat) => n - i) 0 ?_ ?_ ?_
 ·exact Nat.zero_le _
 ·exact eL [] _ _ (by refine ⟨?_, ?_⟩ <;> (repeat' first | exact fmn | refine fmc ⟨(by first | rfl | (simp (disch := omega) only [go_sem, simprocAttr, inL]; first | done | omega | (congr 1; done))), ?_⟩); done)
 ·intro i hi
  rcases Nat.lt_or_ge i n with hlt | hge
  ·obtain ⟨u, w, hu, hw, hs⟩ := hstep i hlt
   have hl := hlen i
   have e1 : ((a : Int) + i).toNat = a + i := by omega
   have e2 : ((b : Int) + i).toNat = b + i := by omega
   have hs2 : (((L i).map (elD v p)).set (a + i) (elD v p w)).set (b + i) (elD v p u) = (L (i + 1)).map (elD v p) := by rw [← hs, List.map_set, List.map_set]
   have hz : ((L i).set (a + i) w)[b + i]? = some w := by
    rw [List.getElem?_set]
    by_cases c : a + i = b + i
    ·rw [if_pos c, if_pos (by omega)]
    ·rw [if_neg c, hw]
   have hz2 : (((L i).map (elD v p)).set (a + i) (elD v p w))[b + i]? = some (elD v p w) := by rw [← List.map_set, List.getElem?_map, hz]; rfl
   repeat' first | refine Zad rfl ?_ | refine Zac ?_ | refine wR ?_ | (refine Zaa rfl rfl (fun hc => ?_) (fun hc => ?_) <;> try simp only [hcL] at hc) | (refine Zab _ rfl rfl (fun hc => ?_) (fun hc => ?_) <;> (try simp only [hcL] at hc) <;> try omega) | simp (disch := omega) only [go_sem, simprocAttr, e1, e2, hu, hw, hl, List.length_set, hz2, hs2] | apply And.intro | omega | decide +kernel
   refine ⟨i + 1, ?_, eL [] _ _ (by refine ⟨?_, ?_⟩ <;> (repeat' first | exact fmn | refine fmc ⟨(by first | rfl | (simp (disch := omega) only [go_sem, simprocAttr, inL, hs2]; first | done | omega | (congr 1; done))), ?_⟩); done), ?_⟩
   ·omega
   ·omega
  ·have : i = n := by omega
   subst this
   repeat' first | refine Zad rfl ?_ | refine Zac ?_ | refine wR ?_ | (refine Zaa rfl rfl (fun hc => ?_) (fun hc => ?_) <;> try simp only [hcL] at hc) | (refine Zab _ rfl rfl (fun hc => ?_) (fun hc => ?_) <;> (try simp only [hcL] at hc) <;> try omega) | simp (disch := omega) only [go_sem, simprocAttr] | apply And.intro | omega | decide +kernel
   refine ⟨_, Zbh.1 (eL [] [] [(1000, .row 2 ((L i).map (elD v p)))] (by refine ⟨?_, ?_⟩ <;> (repeat' first | exact fmn | refine fmc ⟨(by first | rfl | (simp (disch := omega) only [go_sem, simprocAttr, inL]; first | done | omega | (congr 1; done))), ?_⟩); done)), ?_⟩
   exact ⟨⟨[], rfl, trivial⟩, fmc ⟨rfl, fmn⟩⟩
end Go.Proofs.YtldbcbclhpcofaaGreat
namespace Go.Proofs.YtldbcbclhpcofaaGreat
open Go Go.PS Go.Proofs
set_option maxRecDepth 100000
attribute [local irreducible] Zax wpG Zah Zai

theorem set_mid {α : Type} (A : List α) (u w : α) (C : List α) : (A ++ u :: C).set A.length w = A ++ w :: C := by
 rw [List.set_append, if_neg (Nat.lt_irrefl _), Nat.sub_self]; rfl
theorem get_mid {α : Type} (A : List α) (u : α) (C : List α) : (A ++ u :: C)[A.length]? = some u := by
 rw [List.getElem?_append_right (Nat.le_refl _), Nat.sub_self]; rfl
theorem drop_cons {α : Type} {l : List α} {i : Nat} {u : α} (h : l[i]? = some u) : l.drop i = u :: l.drop (i + 1) := by
 obtain ⟨hl, rfl⟩ := List.getElem?_eq_some_iff.1 h
 exact List.drop_eq_getElem_cons hl
def swN (X U Y V Z : List Nat) (i : Nat) : List Nat := X ++ V.take i ++ U.drop i ++ Y ++ U.take i ++ V.drop i ++ Z
theorem swN_step {X U Y V Z : List Nat} (h : U.length = V.length) {i : Nat} (hi : i < U.length) :
  ∃ u w, (swN X U Y V Z i)[X.length + i]? = some u ∧ (swN X U Y V Z i)[X.length + U.length + Y.length + i]? = some w ∧ ((swN X U Y V Z i).set (X.length + i) w).set (X.length + U.length + Y.length + i) u = swN X U Y V Z (i + 1) := by
 obtain ⟨u, hu⟩ := Zan hi
 obtain ⟨w, hw⟩ := Zan (l := V) (k := i) (by omega)
 have e1 : swN X U Y V Z i = (X ++ V.take i) ++ u :: ((U.drop (i + 1) ++ Y ++ U.take i) ++ w :: (V.drop (i + 1) ++ Z)) := by
  rw [swN, drop_cons hu, drop_cons hw]; simp
 have e2 : swN X U Y V Z i = ((X ++ V.take i) ++ u :: (U.drop (i + 1) ++ Y ++ U.take i)) ++ w :: (V.drop (i + 1) ++ Z) := by rw [e1]; simp
 have l1 : (X ++ V.take i).length = X.length + i := by rw [List.length_append, List.length_take]; omega
 have l2 : ((X ++ V.take i) ++ u :: (U.drop (i + 1) ++ Y ++ U.take i)).length = X.length + U.length + Y.length + i := by
  simp only [List.length_append, List.length_cons, List.length_take, List.length_drop]; omega
 have l3 : ((X ++ V.take i) ++ w :: (U.drop (i + 1) ++ Y ++ U.take i)).length = X.length + U.length + Y.length + i := by
  simp only [List.length_append, List.length_cons, List.length_take, List.length_drop]; omega
 refine ⟨u, w, ?_, ?_, ?_⟩
 ·rw [e1, ← l1]; exact get_mid _ _ _
 ·rw [e2, ← l2]; exact get_mid _ _ _
 ·rw [e1, ← l1, set_mid]
  have e3 : (X ++ V.take i) ++ w :: ((U.drop (i + 1) ++ Y ++ U.take i) ++ w :: (V.drop (i + 1) ++ Z)) = ((X ++ V.take i) ++ w :: (U.drop (i + 1) ++ Y ++ U.take i)) ++ w :: (V.drop (i + 1) ++ Z) := by simp
  rw [e3, ← l3, set_mid, swN, Zat hw, Zat hu]; simp
theorem swap_spec (v : Nat → Int) (p : Nat → List D) (g : Nat) (X U Y V Z : List Nat) (h : U.length = V.length) (N : Nat) (hN : X.length + U.length + Y.length + V.length + Z.length = N) (hN1 : N ≤ 1000000) (a b n : Int)
  (ha : a = X.length) (hb : b = (X.length + U.length + Y.length : Nat)) (hn : n = U.length) :
  Zai Tryz.prog 133 [.ref 1000 2 0 N N, .int a, .int b, .int n, .d (.fn g [])] [(1000, .row 2 ((X ++ U ++ Y ++ V ++ Z).map (elD v p)))] (.tup []) [(1000, .row 2 ((X ++ V ++ Y ++ U ++ Z).map (elD v p)))] := by
 have hm := swap_main v p g X.length (X.length + U.length + Y.length) U.length N (swN X U Y V Z) (fun i => by
  rw [swN]; simp only [List.length_append, List.length_take, List.length_drop]; omega) hN1 (by omega) (by omega) (fun i hi => swN_step h hi)
 have e0 : swN X U Y V Z 0 = X ++ U ++ Y ++ V ++ Z := by rw [swN]; simp
 have e1 : swN X U Y V Z U.length = X ++ V ++ Y ++ U ++ Z := by
  rw [swN, List.take_of_length_le (l := V) (by omega), List.drop_of_length_le (l := U) (Nat.le_refl _), List.take_of_length_le (l := U) (Nat.le_refl _), List.drop_of_length_le (l := V) (by omega)]; simp
 rw [e0, e1] at hm
 rw [ha, hb, hn]
 exact hm
set_option maxHeartbeats 2000000 in
theorem rot_spec (v : Nat → Int) (p : Nat → List D) (g : Nat) (P U V Q : List Nat) (hU : 0 < U.length) (hV : 0 < V.length) (N : Nat) (hN : P.length + U.length + V.length + Q.length = N) (hN1 : N ≤ 1000000) (a m b : Int)
  (ha : a = P.length) (hm : m = (P.length + U.length : Nat)) (hb : b = (P.length + U.length + V.length : Nat)) :
  Zai Tryz.prog 131 [.ref 1000 2 0 N N, .int a, .int m, .int b, .d (.fn g [])] [(1000, .row 2 ((P ++ U ++ V ++ Q).map (elD v p)))] (.tup []) [(1000, .row 2 ((P ++ V ++ U ++ Q).map (elD v p)))] := by
 subst ha hm hb
 obtain ⟨M, hM⟩ : ∃ M, M = P.length + U.length := ⟨_, rfl⟩
 obtain ⟨R, hR⟩ : ∃ R, R = P ++ V ++ U ++ Q := ⟨_, rfl⟩
 rw [← hR, ← hM]
 have d1 : ((M + V.length : Nat) : Int) - (M : Int) = V.length := by omega
 have d2 : (M : Int) - (P.length : Int) = U.length := by omega
 refine Zag Tryz.func131 rfl (by decide +kernel) (Nat.le_of_ble_eq_true rfl) rfl (Zba rfl) rfl rfl rfl ?_
 intro B X w0
 refine Zcs ?_
 repeat' first | refine Zad rfl ?_ | refine Zac ?_ | refine wR ?_ | (refine Zaa rfl rfl (fun hc => ?_) (fun hc => ?_) <;> try simp only [hcL] at hc) | (refine Zab _ rfl rfl (fun hc => ?_) (fun hc => ?_) <;> (try simp only [hcL] at hc) <;> try omega) | simp (disch := omega) only [go_sem, simprocAttr, d1, d2] | apply And.intro | omega | decide +kernel
 refine Zap (κ := List Nat × List Nat × List Nat × List Nat) (fun (q : List Nat × List Nat × List Nat × List Nat) => match q with | (P, U, V, Q) => 0 < U.length ∧ 0 < V.length ∧ P.length + U.length = M ∧ P.length + U.length + V.length + Q.length = N ∧ P ++ V ++ U ++ Q = R) (fun (q : List Nat × List Nat × List Nat × List Nat) => match q with | (P, U, V, Q) => [(0, .ref 1000 2 0 N N), (2, .int M), (4, .d (.fn g [])), (10, .int U.length), (11, .int V.length)]) (fun (q : List Nat × List Nat × List Nat × List Nat) => match q with | (P, U, V, Q) => [(1000, .row 2 ((P ++ U ++ V ++ Q).map (elD v p)))]) (fun (q : List Nat × List Nat × List Nat × List Nat) => match q with | (P, U, V, Q) => U.length + V.length) (P, U, V, Q) ?_ ?_ ?_
 ·exact ⟨hU, hV, hM.symm, by omega, hR.symm⟩
 ·exact eL [] _ _ (by refine ⟨?_, ?_⟩ <;> (repeat' first | exact fmn | refine fmc ⟨(by first | rfl | (simp (disch := omega) only [go_sem, simprocAttr, inL]; first | done | omega | (congr 1; done))), ?_⟩); done)
 ·rintro ⟨P, U, V, Q⟩ ⟨hU, hV, hM, hN, hR⟩
  dsimp only at hU hV hM hN hR ⊢
  rcases Nat.lt_trichotomy U.length V.length with hlt | heq | hgt
  ·obtain ⟨V1, V2, rfl, hl⟩ : ∃ V1 V2, V = V1 ++ V2 ∧ V2.length = U.length := ⟨V.take (V.length - U.length), V.drop (V.length - U.length), (List.take_append_drop _ _).symm, by rw [List.length_drop]; omega⟩
   rw [List.length_append] at hlt hN
   have h1 := swap_spec v p g P U V1 V2 Q hl.symm N (by omega) hN1 ((M : Int) - (U.length : Int)) ((M : Int) + ((V1 ++ V2).length : Int) - (U.length : Int)) U.length (by omega) (by rw [List.length_append]; omega) rfl
   have e0 : P ++ U ++ (V1 ++ V2) ++ Q = P ++ U ++ V1 ++ V2 ++ Q := by simp
   have e1 : P ++ V2 ++ V1 ++ U ++ Q = P ++ V2 ++ V1 ++ (U ++ Q) := by simp
   have e2 : ((V1 ++ V2).length : Int) - (U.length : Int) = V1.length := by rw [List.length_append]; omega
   have b1 : (V1 ++ V2).length ≤ 1000000 := by rw [List.length_append]; omega
   have b2 : U.length < (V1 ++ V2).length := by rw [List.length_append]; omega
   rw [← e0] at h1
   have b3 : (V1 ++ V2).length = V1.length + V2.length := List.length_append
   generalize hVV : V1 ++ V2 = VV at *
   repeat' first | refine Zad rfl ?_ | refine Zac ?_ | refine wR ?_ | refine rcM [] (h1) rfl ?_ | (refine Zaa rfl rfl (fun hc => ?_) (fun hc => ?_) <;> try simp only [hcL] at hc) | (refine Zab _ rfl rfl (fun hc => ?_) (fun hc => ?_) <;> (try simp only [hcL] at hc) <;> try omega) | simp (disch := omega) only [go_sem, simprocAttr] | apply And.intro | omega | decide +kernel
   refine ⟨(P, V2, V1, U ++ Q), ?_, eL [] _ _ (by refine ⟨?_, ?_⟩ <;> (repeat' first | exact fmn | refine fmc ⟨(by first | rfl | (simp (disch := omega) only [go_sem, simprocAttr, inL, e1, e2, hl]; first | done | omega | (congr 1; done))), ?_⟩); done), ?_⟩
   ·dsimp only
    refine ⟨by omega, by omega, by omega, ?_, ?_⟩
    ·rw [List.length_append]; omega
    ·rw [← hR, ← hVV]; simp
   ·dsimp only; omega
  ·have h1 := swap_spec v p g P U [] V Q heq N (by simp only [List.length_nil]; omega) hN1 ((M : Int) - (V.length : Int)) M V.length (by omega) (by simp only [List.length_nil]; omega) (by omega)
   rw [List.append_nil, List.append_nil] at h1
   repeat' first | refine Zad rfl ?_ | refine Zac ?_ | refine wR ?_ | refine rcM [] (h1) rfl ?_ | (refine Zaa rfl rfl (fun hc => ?_) (fun hc => ?_) <;> try simp only [hcL] at hc) | (refine Zab _ rfl rfl (fun hc => ?_) (fun hc => ?_) <;> (try simp only [hcL] at hc) <;> try omega) | simp (disch := omega) only [go_sem, simprocAttr, heq] | apply And.intro | omega | decide +kernel
   refine ⟨_, Zbh.1 (eL [] [] [(1000, .row 2 ((P ++ V ++ U ++ Q).map (elD v p)))] (by refine ⟨?_, ?_⟩ <;> (repeat' first | exact fmn | refine fmc ⟨(by first | rfl | (simp (disch := omega) only [go_sem, simprocAttr, inL]; first | done | omega | (congr 1; done))), ?_⟩); done)), ?_⟩
   rw [hR]
   exact ⟨⟨[], rfl, trivial⟩, fmc ⟨rfl, fmn⟩⟩
  ·obtain ⟨U1, U2, rfl, hl⟩ : ∃ U1 U2, U = U1 ++ U2 ∧ U1.length = V.length := ⟨U.take V.length, U.drop V.length, (List.take_append_drop _ _).symm, by rw [List.length_take]; omega⟩
   rw [List.length_append] at hgt hN
   have h1 := swap_spec v p g P U1 U2 V Q hl N (by omega) hN1 ((M : Int) - ((U1 ++ U2).length : Int)) M V.length (by rw [List.length_append] at hM ⊢; omega) (by rw [List.length_append] at hM; omega) (by omega)
   have e0 : P ++ (U1 ++ U2) ++ V ++ Q = P ++ U1 ++ U2 ++ V ++ Q := by simp
   have e1 : P ++ V ++ U2 ++ U1 ++ Q = (P ++ V) ++ U2 ++ U1 ++ Q := by simp
   have e2 : ((U1 ++ U2).length : Int) - (V.length : Int) = U2.length := by rw [List.length_append]; omega
   have b1 : (U1 ++ U2).length ≤ 1000000 := by rw [List.length_append]; omega
   have b2 : V.length < (U1 ++ U2).length := by rw [List.length_append]; omega
   rw [← e0] at h1
   have b3 : (U1 ++ U2).length = U1.length + U2.length := List.length_append
   generalize hUU : U1 ++ U2 = UU at *
   repeat' first | refine Zad rfl ?_ | refine Zac ?_ | refine wR ?_ | refine rcM [] (h1) rfl ?_ | (refine Zaa rfl rfl (fun hc => ?_) (fun hc => ?_) <;> try simp only [hcL] at hc) | (refine Zab _ rfl rfl (fun hc => ?_) (fun hc => ?_) <;> (try simp only [hcL] at hc) <;> try omega) | simp (disch := omega) only [go_sem, simprocAttr] | apply And.intro | omega | decide +kernel
   refine ⟨(P ++ V, U2, U1, Q), ?_, eL [] _ _ (by refine ⟨?_, ?_⟩ <;> (repeat' first | exact fmn | refine fmc ⟨(by first | rfl | (simp (disch := omega) only [go_sem, simprocAttr, inL, e1, e2, hl]; first | done | omega | (congr 1; done))), ?_⟩); done), ?_⟩
   ·dsimp only
    refine ⟨by omega, by omega, ?_, ?_, ?_⟩
    ·rw [List.length_append]; omega
    ·rw [List.length_append]; omega
    ·rw [← hR, ← hUU]; simp
   ·dsimp only; omega
end Go.Proofs.YtldbcbclhpcofaaGreat
namespace Go.Proofs.YtldbcbclhpcofaaGreat
open Go Go.PS Go.Proofs
open Go.Stb
set_option maxRecDepth 100000
attribute [local irreducible] Zax wpG Zah Zai

def Back (c : Nat → Nat → Int) (R : Nat → Nat → Prop) (s x : Nat) : Prop := c x s < 0 ↔ R x s
theorem back_take {c : Nat → Nat → Int} {R : Nat → Nat → Prop} {M : List Nat} (h : M.Pairwise (Back c R)) {k x s : Nat} (hx : M[k]? = some x) (hs : s ∈ M.take k) : Back c R s x := by
 rw [← List.take_append_drop k M] at h
 exact (List.pairwise_append.1 h).2.2 s hs x (by rw [drop_cons hx]; simp)
theorem ne_take {M : List Nat} (h : M.Nodup) {k x s : Nat} (hx : M[k]? = some x) (hs : s ∈ M.take k) : s ≠ x := by
 rw [← List.take_append_drop k M, List.nodup_append] at h
 exact h.2.2 s hs x (by rw [drop_cons hx]; simp)
set_option maxHeartbeats 2000000 in
theorem isort_spec (v : Nat → Int) (p : Nat → List D) (g : Nat) (c : Nat → Nat → Int) (R : Nat → Nat → Prop) (hR : Ord R) (hcmp : ∀ j k, Zah Tryz.prog g [elD v p j, elD v p k] (.int (c j k)))
  (P M Q T : List Nat) (hb : M.Pairwise (Back c R)) (hnd : M.Nodup) (hT : T.Perm M) (hTs : T.Pairwise R) (N : Nat) (hN : P.length + M.length + Q.length = N) (hN1 : N ≤ 1000000) (a e : Int) (ha : a = P.length) (he : e = (P.length + M.length : Nat)) :
  Zai Tryz.prog 121 [.ref 1000 2 0 N N, .int a, .int e, .d (.fn g [])] [(1000, .row 2 ((P ++ M ++ Q).map (elD v p)))] (.tup []) [(1000, .row 2 ((P ++ T ++ Q).map (elD v p)))] := by
 subst ha he
 obtain ⟨A, hA⟩ : ∃ A, A = P.length := ⟨_, rfl⟩
 rw [← hA]
 refine Zag Tryz.func121 rfl (by decide +kernel) (Nat.le_of_ble_eq_true rfl) rfl (Zba rfl) rfl rfl rfl ?_
 intro B X w0
 refine Zcs ?_
 repeat' first | refine Zad rfl ?_ | refine Zac ?_ | refine wR ?_ | (refine Zaa rfl rfl (fun hc => ?_) (fun hc => ?_) <;> try simp only [hcL] at hc) | (refine Zab _ rfl rfl (fun hc => ?_) (fun hc => ?_) <;> (try simp only [hcL] at hc) <;> try omega) | simp (disch := omega) only [go_sem, simprocAttr] | apply And.intro | omega | decide +kernel
 refine Zap (κ := Nat × List Nat) (fun (q : Nat × List Nat) => match q with | (k, S) => 1 ≤ k ∧ k ≤ M.length + 1 ∧ S.Pairwise R ∧ S.Perm (M.take k)) (fun (q : Nat × List Nat) => match q with | (k, S) => [(0, .ref 1000 2 0 N N), (1, .int A), (2, .int ((A + M.length : Nat) : Int)), (3, .d (.fn g [])), (8, .int ((A + k : Nat) : Int))]) (fun (q : Nat × List Nat) => match q with | (k, S) => [(1000, .row 2 ((P ++ S ++ M.drop k ++ Q).map (elD v p)))]) (fun (q : Nat × List Nat) => match q with | (k, S) => M.length + 1 - k) (1, M.take 1) ?_ ?_ ?_
 ·refine ⟨Nat.le_refl _, by omega, ?_, List.Perm.refl _⟩
  rcases M with _ | ⟨x, M⟩
  ·exact List.Pairwise.nil
  ·exact List.pairwise_singleton _ _
 ·have e0 : P ++ M.take 1 ++ M.drop 1 ++ Q = P ++ M ++ Q := by rw [List.append_assoc P, List.take_append_drop]
  exact eL [] _ _ (by refine ⟨?_, ?_⟩ <;> (repeat' first | exact fmn | refine fmc ⟨(by first | rfl | (simp (disch := omega) only [go_sem, simprocAttr, inL, e0, Int.natCast_add, Int.natCast_one]; first | done | omega | (congr 1; done))), ?_⟩); done)
 ·rintro ⟨k, S⟩ ⟨hk1, hk2, hSs, hSp⟩
  dsimp only at hk1 hk2 hSs hSp ⊢
  have hSl := hSp.length_eq
  rw [List.length_take] at hSl
  rcases Nat.lt_or_ge k M.length with hlt | hge
  ·obtain ⟨x, hx⟩ := Zan hlt
   have hdr := drop_cons hx
   have hSx : ∀ s, s ∈ S → Back c R s x ∧ s ≠ x := fun s hs => ⟨back_take hb hx (hSp.mem_iff.1 hs), ne_take hnd hx (hSp.mem_iff.1 hs)⟩
   generalize hQ2 : M.drop (k + 1) ++ Q = Q2 at *
   have hQl : Q2.length + k + 1 = M.length + Q.length := by rw [← hQ2, List.length_append, List.length_drop]; omega
   repeat' first | refine Zad rfl ?_ | refine Zac ?_ | refine wR ?_ | (refine Zaa rfl rfl (fun hc => ?_) (fun hc => ?_) <;> try simp only [hcL] at hc) | (refine Zab _ rfl rfl (fun hc => ?_) (fun hc => ?_) <;> (try simp only [hcL] at hc) <;> try omega) | simp (disch := omega) only [go_sem, simprocAttr] | apply And.intro | omega | decide +kernel
   refine Zap (κ := List Nat × List Nat) (fun (q : List Nat × List Nat) => match q with | (S1, S2) => S1 ++ S2 = S ∧ (∀ s, s ∈ S2 → R x s)) (fun (q : List Nat × List Nat) => match q with | (S1, S2) => [(0, .ref 1000 2 0 N N), (1, .int A), (2, .int ((A + M.length : Nat) : Int)), (3, .d (.fn g [])), (8, .int ((A + k : Nat) : Int)), (9, .int ((A + S1.length : Nat) : Int))]) (fun (q : List Nat × List Nat) => match q with | (S1, S2) => [(1000, .row 2 ((P ++ S1 ++ x :: (S2 ++ Q2)).map (elD v p)))]) (fun (q : List Nat × List Nat) => match q with | (S1, S2) => S1.length) (S, []) ?_ ?_ ?_
   ·exact ⟨List.append_nil _, fun s hs => by cases hs⟩
   ·have e0 : P ++ S ++ M.drop k ++ Q = P ++ S ++ x :: Q2 := by rw [hdr, ← hQ2]; simp
    have e1 : S.length = k := by omega
    exact eL [] _ _ (by refine ⟨?_, ?_⟩ <;> (repeat' first | exact fmn | refine fmc ⟨(by first | rfl | (simp (disch := omega) only [go_sem, simprocAttr, inL, e0, e1, List.nil_append]; first | done | omega | (congr 1; done))), ?_⟩); done)
   ·rintro ⟨S1, S2⟩ ⟨hSS, hS2⟩
    dsimp only at hSS hS2 ⊢
    have hl0 : S1.length + S2.length = k := by
     have := congrArg List.length hSS
     rw [List.length_append] at this; omega
    have hdone : S1 = [] ∨ (∃ S3 s, S1 = S3 ++ [s]) := by
     rcases List.eq_nil_or_concat S1 with h | ⟨l, z, h⟩
     ·exact .inl h
     ·exact .inr ⟨l, z, by rw [h, List.concat_eq_append]⟩
    have hfin : (∀ s, s ∈ S1 → R s x) → (S1 ++ x :: S2).Pairwise R ∧ (S1 ++ x :: S2).Perm (M.take (k + 1)) := fun h => by
     refine ⟨insert_sorted hR (by rw [hSS]; exact hSs) h hS2, ?_⟩
     rw [Zat hx]
     refine List.perm_middle.trans ?_
     rw [hSS]
     exact (List.perm_append_comm (l₁ := [x]) (l₂ := S)).trans (hSp.append_right [x])
    have hrow : P ++ S1 ++ x :: (S2 ++ Q2) = P ++ (S1 ++ x :: S2) ++ M.drop (k + 1) ++ Q := by rw [← hQ2]; simp
    have hkk : ((A + k : Nat) : Int) + 1 = ((A + (k + 1) : Nat) : Int) := by omega
    rcases hdone with rfl | ⟨S3, s, rfl⟩
    ·obtain ⟨f1, f2⟩ := hfin (fun s hs => by cases hs)
     have z0 : A + ([] : List Nat).length = A := rfl
     rw [z0]
     repeat' first | refine Zad rfl ?_ | refine Zac ?_ | refine wR ?_ | (refine Zaa rfl rfl (fun hc => ?_) (fun hc => ?_) <;> try simp only [hcL] at hc) | (refine Zab _ rfl rfl (fun hc => ?_) (fun hc => ?_) <;> (try simp only [hcL] at hc) <;> try omega) | simp (disch := omega) only [go_sem, simprocAttr] | apply And.intro | omega | decide +kernel
     have hrow0 : P ++ x :: (S2 ++ Q2) = P ++ x :: S2 ++ M.drop (k + 1) ++ Q := by rw [← hQ2]; simp
     refine ⟨(k + 1, x :: S2), ?_, eL [] _ _ (by refine ⟨?_, ?_⟩ <;> (repeat' first | exact fmn | refine fmc ⟨(by first | rfl | (simp (disch := omega) only [go_sem, simprocAttr, inL, hrow0, hkk]; first | done | omega | (congr 1; done))), ?_⟩); done), ?_⟩
     ·exact ⟨by omega, by omega, f1, f2⟩
     ·dsimp only; omega
    ·obtain ⟨hbk, hne⟩ := hSx s (by rw [← hSS]; simp)
     have h1 := hcmp x s
     rw [List.length_append, List.length_singleton] at hl0
     obtain ⟨J, hJ⟩ : ∃ J, J = A + S3.length := ⟨_, rfl⟩
     have z0 : A + (S3 ++ [s]).length = J + 1 := by rw [List.length_append, List.length_singleton]; omega
     have g1 : (P ++ (S3 ++ [s]) ++ x :: (S2 ++ Q2))[J + 1]? = some x := by
      rw [← z0, hA, ← List.length_append]; exact get_mid _ _ _
     have rw1 : P ++ (S3 ++ [s]) ++ x :: (S2 ++ Q2) = (P ++ S3) ++ s :: x :: (S2 ++ Q2) := by simp
     have hPJ : (P ++ S3).length = J := by rw [List.length_append]; omega
     have g2 : (P ++ (S3 ++ [s]) ++ x :: (S2 ++ Q2))[J]? = some s := by rw [rw1, ← hPJ]; exact get_mid _ _ _
     have hln : (P ++ (S3 ++ [s]) ++ x :: (S2 ++ Q2)).length = N := by
      simp only [List.length_append, List.length_cons, List.length_nil]; omega
     have hst : ((P ++ (S3 ++ [s]) ++ x :: (S2 ++ Q2)).set (J + 1) s).set J x = P ++ S3 ++ x :: (s :: S2 ++ Q2) := by
      have r1 : (P ++ (S3 ++ [s]) ++ x :: (S2 ++ Q2)).set (J + 1) s = (P ++ S3) ++ s :: s :: (S2 ++ Q2) := by
       rw [← z0, hA, ← List.length_append, set_mid]; simp
      rw [r1, ← hPJ, set_mid]; simp
     have g3 : ((P ++ (S3 ++ [s]) ++ x :: (S2 ++ Q2)).set (J + 1) s)[J]? = some s := by
      rw [List.getElem?_set, if_neg (by omega), g2]
     rw [z0]
     rw [hrow] at *
     generalize hLL : P ++ (S3 ++ [s] ++ x :: S2) ++ M.drop (k + 1) ++ Q = LL at *
     have g4 : ((LL.map (elD v p)).set (J + 1) (elD v p s))[J]? = some (elD v p s) := by rw [← List.map_set, List.getElem?_map, g3]; rfl
     have hs2 : ((LL.map (elD v p)).set (J + 1) (elD v p s)).set J (elD v p x) = (P ++ S3 ++ x :: (s :: S2 ++ Q2)).map (elD v p) := by rw [← hst, List.map_set, List.map_set]
     have n1 : (((J + 1 : Nat) : Int) - 1).toNat = J := by omega
     have n2 : (((J + 1 : Nat) : Int)).toNat = J + 1 := by omega
     have n3 : ((J + 1 : Nat) : Int) - 1 = (J : Int) := by omega
     by_cases hlt2 : c x s < 0
     ·repeat' first | refine Zad rfl ?_ | refine Zac ?_ | refine wR ?_ | (refine rc (h1) rfl ?_ ?_; (· first | rfl | simp (disch := omega) only [go_sem, simprocAttr, n1, n2, n3, g1, g2, hln, hlt2, List.length_set, g4, hs2])) | (refine Zaa rfl rfl (fun hc => ?_) (fun hc => ?_) <;> try simp only [hcL] at hc) | (refine Zab _ rfl rfl (fun hc => ?_) (fun hc => ?_) <;> (try simp only [hcL] at hc) <;> try omega) | simp (disch := omega) only [go_sem, simprocAttr, n1, n2, n3, g1, g2, hln, hlt2, List.length_set, g4, hs2] | apply And.intro | omega | decide +kernel
      refine ⟨(S3, s :: S2), ?_, eL [] _ _ (by refine ⟨?_, ?_⟩ <;> (repeat' first | exact fmn | refine fmc ⟨(by first | rfl | (simp (disch := omega) only [go_sem, simprocAttr, inL, hs2, hJ]; first | done | omega | (congr 1; done))), ?_⟩); done), ?_⟩
      ·dsimp only
       exact ⟨by rw [← hSS]; simp, fun z hz => by
        rcases List.mem_cons.1 hz with rfl | hz
        ·exact hbk.1 hlt2
        ·exact hS2 z hz⟩
      ·dsimp only; rw [List.length_append, List.length_singleton]; omega
     ·have hsx : R s x := by
       rcases hR.total s x hne with h | h
       ·exact h
       ·exact absurd (hbk.2 h) hlt2
      have hS1s : (S3 ++ [s]).Pairwise R := by
       rw [← hSS] at hSs
       exact (List.pairwise_append.1 hSs).1
      obtain ⟨f1, f2⟩ := hfin (fun z hz => by
       rcases List.mem_append.1 hz with hz | hz
       ·exact hR.trans z s x ((List.pairwise_append.1 hS1s).2.2 z hz s (by simp)) hsx
       ·rw [List.mem_singleton.1 hz]; exact hsx)
      repeat' first | refine Zad rfl ?_ | refine Zac ?_ | refine wR ?_ | (refine rc (h1) rfl ?_ ?_; (· first | rfl | simp (disch := omega) only [go_sem, simprocAttr, n1, n2, n3, g1, g2, hln, hlt2])) | (refine Zaa rfl rfl (fun hc => ?_) (fun hc => ?_) <;> try simp only [hcL] at hc) | (refine Zab _ rfl rfl (fun hc => ?_) (fun hc => ?_) <;> (try simp only [hcL] at hc) <;> try omega) | simp (disch := omega) only [go_sem, simprocAttr, n1, n2, n3, g1, g2, hln, hlt2] | apply And.intro | omega | decide +kernel
      refine ⟨(k + 1, S3 ++ [s] ++ x :: S2), ?_, eL [] _ _ (by refine ⟨?_, ?_⟩ <;> (repeat' first | exact fmn | refine fmc ⟨(by first | rfl | (simp (disch := omega) only [go_sem, simprocAttr, inL, hLL, hkk]; first | done | omega | (congr 1; done))), ?_⟩); done), ?_⟩
      ·exact ⟨by omega, by omega, f1, f2⟩
      ·dsimp only; omega
  ·have hS : S = T := by
    rw [List.take_of_length_le hge] at hSp
    exact uniq hR (hSp.trans hT.symm) hSs hTs
   subst hS
   repeat' first | refine Zad rfl ?_ | refine Zac ?_ | refine wR ?_ | (refine Zaa rfl rfl (fun hc => ?_) (fun hc => ?_) <;> try simp only [hcL] at hc) | (refine Zab _ rfl rfl (fun hc => ?_) (fun hc => ?_) <;> (try simp only [hcL] at hc) <;> try omega) | simp (disch := omega) only [go_sem, simprocAttr] | apply And.intro | omega | decide +kernel
   have e0 : P ++ S ++ M.drop k ++ Q = P ++ S ++ Q := by rw [List.drop_of_length_le hge, List.append_nil]
   refine ⟨_, Zbh.1 (eL [] [] [(1000, .row 2 ((P ++ S ++ Q).map (elD v p)))] (by refine ⟨?_, ?_⟩ <;> (repeat' first | exact fmn | refine fmc ⟨(by first | rfl | (simp (disch := omega) only [go_sem, simprocAttr, inL, e0]; first | done | omega | (congr 1; done))), ?_⟩); done)), ?_⟩
   exact ⟨⟨[], rfl, trivial⟩, fmc ⟨rfl, fmn⟩⟩
end Go.Proofs.YtldbcbclhpcofaaGreat
namespace Go.Proofs.YtldbcbclhpcofaaGreat
open Go Go.PS Go.Proofs
open Go.Stb
set_option maxRecDepth 100000
attribute [local irreducible] Zax wpG Zah Zai

theorem wrapU {x : Int} (h : 0 ≤ x) (h2 : x ≤ 18446744073709551615) : IntKind.u64.wrap x = x := by
 simp [IntKind.wrap, IntKind.bits, IntKind.signed]
 omega
theorem shr1 {x : Int} (h : 0 ≤ x) : x.fdiv (2 ^ min 1 64) = x / 2 := by
 rw [Int.fdiv_eq_ediv_of_nonneg _ (by decide)]; rfl
def putN (P A Q : List Nat) (y : Nat) (k : Nat) : List Nat := P ++ A.take k ++ y :: (A.drop k ++ Q)
theorem putN_len {P A Q : List Nat} {y k : Nat} (hk : k ≤ A.length) : (putN P A Q y k).length = P.length + A.length + 1 + Q.length := by
 simp only [putN, List.length_append, List.length_cons, List.length_take, List.length_drop]; omega
theorem putN_at {P A Q : List Nat} {y k : Nat} (hk : k ≤ A.length) : (putN P A Q y k)[P.length + k]? = some y := by
 have : (P ++ A.take k).length = P.length + k := by rw [List.length_append, List.length_take]; omega
 rw [putN, ← this]; exact get_mid _ _ _
theorem putN_next {P A Q : List Nat} {y k x : Nat} (hx : A[k]? = some x) : (putN P A Q y k)[P.length + k + 1]? = some x := by
 have hk := (List.getElem?_eq_some_iff.1 hx).1
 have e : putN P A Q y k = (P ++ A.take k ++ [y]) ++ x :: (A.drop (k + 1) ++ Q) := by rw [putN, drop_cons hx]; simp
 have : (P ++ A.take k ++ [y]).length = P.length + k + 1 := by simp only [List.length_append, List.length_take, List.length_cons, List.length_nil]; omega
 rw [e, ← this]; exact get_mid _ _ _
theorem putN_prev {P A Q : List Nat} {y k x : Nat} (hx : A[k]? = some x) : (putN P A Q y (k + 1))[P.length + k]? = some x := by
 have hk := (List.getElem?_eq_some_iff.1 hx).1
 have e : putN P A Q y (k + 1) = (P ++ A.take k) ++ x :: (y :: (A.drop (k + 1) ++ Q)) := by rw [putN, Zat hx]; simp
 have : (P ++ A.take k).length = P.length + k := by simp only [List.length_append, List.length_take]; omega
 rw [e, ← this]; exact get_mid _ _ _
theorem putN_up {P A Q : List Nat} {y k x : Nat} (hx : A[k]? = some x) : ((putN P A Q y k).set (P.length + k) x).set (P.length + k + 1) y = putN P A Q y (k + 1) := by
 have hk := (List.getElem?_eq_some_iff.1 hx).1
 have l1 : (P ++ A.take k).length = P.length + k := by simp only [List.length_append, List.length_take]; omega
 have e : (putN P A Q y k).set (P.length + k) x = (P ++ A.take k ++ [x]) ++ x :: (A.drop (k + 1) ++ Q) := by rw [putN, ← l1, set_mid, drop_cons hx]; simp
 have l2 : (P ++ A.take k ++ [x]).length = P.length + k + 1 := by simp only [List.length_append, List.length_take, List.length_cons, List.length_nil]; omega
 rw [e, ← l2, set_mid, putN, Zat hx]; simp
theorem putN_down {P A Q : List Nat} {y k x : Nat} (hx : A[k]? = some x) : ((putN P A Q y (k + 1)).set (P.length + k + 1) x).set (P.length + k) y = putN P A Q y k := by
 have hk := (List.getElem?_eq_some_iff.1 hx).1
 have l1 : (P ++ A.take k).length = P.length + k := by simp only [List.length_append, List.length_take]; omega
 have l2 : (P ++ A.take (k + 1)).length = P.length + k + 1 := by simp only [List.length_append, List.length_take]; omega
 have e : (putN P A Q y (k + 1)).set (P.length + k + 1) x = (P ++ A.take k) ++ x :: (x :: (A.drop (k + 1) ++ Q)) := by rw [putN, ← l2, set_mid, Zat hx]; simp
 rw [e, ← l1, set_mid, putN, drop_cons hx]; simp
set_option maxHeartbeats 4000000 in
theorem merge_left (v : Nat → Int) (p : Nat → List D) (g : Nat) (c : Nat → Nat → Int) (R : Nat → Nat → Prop) (hR : Ord R) (hcmp : ∀ j k, Zah Tryz.prog g [elD v p j, elD v p k] (.int (c j k)))
  (P B Q T : List Nat) (x : Nat) (hBs : B.Pairwise R) (hb : ∀ z, z ∈ B → Back c R x z) (hne : ∀ z, z ∈ B → x ≠ z) (hT : T.Perm ([x] ++ B)) (hTs : T.Pairwise R) (N : Nat) (hN : P.length + (1 + B.length) + Q.length = N) (hN1 : N ≤ 1000000) (a m b : Int)
  (ha : a = P.length) (hm : m = (P.length + 1 : Nat)) (hbb : b = (P.length + 1 + B.length : Nat)) :
  Zai Tryz.prog 122 [.ref 1000 2 0 N N, .int a, .int m, .int b, .d (.fn g [])] [(1000, .row 2 ((P ++ [x] ++ B ++ Q).map (elD v p)))] (.tup []) [(1000, .row 2 ((P ++ T ++ Q).map (elD v p)))] := by
 subst ha hm hbb
 have hrow0 : P ++ [x] ++ B ++ Q = putN P B Q x 0 := by simp [putN]
 rw [hrow0]
 have hpl : ∀ k, k ≤ B.length → (putN P B Q x k).length = N := fun k hk => by rw [putN_len hk]; omega
 have hpa : ∀ k, k ≤ B.length → (putN P B Q x k)[P.length + k]? = some x := fun k hk => putN_at hk
 have hpn : ∀ k z, B[k]? = some z → (putN P B Q x k)[P.length + k + 1]? = some z := fun k z => putN_next
 have hpu : ∀ k z, B[k]? = some z → ((putN P B Q x k).set (P.length + k) z).set (P.length + k + 1) x = putN P B Q x (k + 1) := fun k z => putN_up
 have hp0 : ∀ k z, B[k]? = some z → (putN P B Q x 0)[P.length + 1 + k]? = some z := fun k z hz => by
  have e : putN P B Q x 0 = P ++ x :: (B ++ Q) := by simp [putN]
  rw [e, List.getElem?_append_right (by omega), show P.length + 1 + k - P.length = k + 1 by omega, List.getElem?_cons_succ, List.getElem?_append_left (List.getElem?_eq_some_iff.1 hz).1, hz]
 have hend : ∀ i, i ≤ B.length → (∀ z, 0 < i → B[i - 1]? = some z → R z x) → (∀ z, B[i]? = some z → R x z) → P ++ T ++ Q = putN P B Q x i := fun i hi h1 h2 => by
  have h3 := put_sorted hR hi hBs h1 h2
  have h4 : (B.take i ++ x :: B.drop i).Perm ([x] ++ B) := by
   refine List.perm_middle.trans ?_
   rw [List.take_append_drop]; exact List.Perm.refl _
  have : T = B.take i ++ x :: B.drop i := uniq hR (hT.trans h4.symm) hTs h3
  rw [this, putN]; simp
 generalize hA : P.length = A0 at *
 generalize putN P B Q x = L at *
 generalize P ++ T ++ Q = LT at *
 have d1 : ((A0 + 1 : Nat) : Int) - (A0 : Int) = 1 := by omega
 refine Zag Tryz.func122 rfl (by decide +kernel) (Nat.le_of_ble_eq_true rfl) rfl (Zba rfl) rfl rfl rfl ?_
 intro B0 X w0
 refine Zcs ?_
 have g0 := hpa (0) (Nat.zero_le _)
 rw [Nat.add_zero] at g0
 have l0 := hpl (0) (Nat.zero_le _)
 repeat' first | refine Zad rfl ?_ | refine Zac ?_ | refine wR ?_ | (refine Zaa rfl rfl (fun hc => ?_) (fun hc => ?_) <;> try simp only [hcL] at hc) | (refine Zab _ rfl rfl (fun hc => ?_) (fun hc => ?_) <;> (try simp only [hcL] at hc) <;> try omega) | simp (disch := omega) only [go_sem, simprocAttr, d1] | apply And.intro | omega | decide +kernel
 refine Zap (κ := Nat × Nat) (fun (q : Nat × Nat) => match q with | (i, j) => i ≤ j ∧ j ≤ B.length ∧ (∀ z, 0 < i → B[i - 1]? = some z → R z x) ∧ (∀ z, B[j]? = some z → R x z)) (fun (q : Nat × Nat) => match q with | (i, j) => [(0, .ref 1000 2 0 N N), (1, .int A0), (4, .d (.fn g [])), (10, .int ((A0 + 1 + i : Nat) : Int)), (11, .int ((A0 + 1 + j : Nat) : Int))]) (fun (q : Nat × Nat) => match q with | (i, j) => [(1000, .row 2 ((L 0).map (elD v p)))]) (fun (q : Nat × Nat) => match q with | (i, j) => j - i) (0, B.length) ?_ ?_ ?_
 ·exact ⟨Nat.zero_le _, Nat.le_refl _, fun z h => by omega, fun z hz => by rw [List.getElem?_eq_none (Nat.le_refl _)] at hz; cases hz⟩
 ·exact eL [] _ _ (by refine ⟨?_, ?_⟩ <;> (repeat' first | exact fmn | refine fmc ⟨(by first | rfl | (simp (disch := omega) only [go_sem, simprocAttr, inL, Nat.add_zero]; first | done | omega | (congr 1; done))), ?_⟩); done)
 ·rintro ⟨i, j⟩ ⟨hij, hj, hlo, hhi⟩
  dsimp only at hij hj hlo hhi ⊢
  rcases Nat.lt_or_ge i j with hlt | hge
  ·obtain ⟨h, hh⟩ : ∃ h, h = (i + j) / 2 := ⟨_, rfl⟩
   obtain ⟨z, hz⟩ := Zan (l := B) (k := h) (by omega)
   have hzm := List.mem_of_getElem? hz
   have c1 := hcmp z x
   have g1 := hp0 h z hz
   have w1 : IntKind.u64.wrap (((A0 + 1 + i : Nat) : Int) + ((A0 + 1 + j : Nat) : Int)) = ((A0 + 1 + i : Nat) : Int) + ((A0 + 1 + j : Nat) : Int) := wrapU (by omega) (by omega)
   have w2 : (((A0 + 1 + i : Nat) : Int) + ((A0 + 1 + j : Nat) : Int)).fdiv (2 ^ min 1 64) = ((A0 + 1 + h : Nat) : Int) := by rw [shr1 (by omega)]; omega
   by_cases cc : c z x < 0
   ·repeat' first | refine Zad rfl ?_ | refine Zac ?_ | refine wR ?_ | (refine rc (c1) rfl ?_ ?_; (· first | rfl | simp (disch := omega) only [go_sem, simprocAttr, w1, w2, g1, g0, l0, cc])) | (refine Zaa rfl rfl (fun hc => ?_) (fun hc => ?_) <;> try simp only [hcL] at hc) | (refine Zab _ rfl rfl (fun hc => ?_) (fun hc => ?_) <;> (try simp only [hcL] at hc) <;> try omega) | simp (disch := omega) only [go_sem, simprocAttr, w1, w2, g1, g0, l0, cc] | apply And.intro | omega | decide +kernel
    refine ⟨(h + 1, j), ?_, eL [] _ _ (by refine ⟨?_, ?_⟩ <;> (repeat' first | exact fmn | refine fmc ⟨(by first | rfl | (simp (disch := omega) only [go_sem, simprocAttr, inL, ← Int.natCast_add, Nat.add_assoc]; first | done | omega | (congr 1; done))), ?_⟩); done), ?_⟩
    ·exact ⟨by omega, by omega, fun y _ hy => by
      dsimp only at hy
      rw [Nat.add_sub_cancel, hz, Option.some.injEq] at hy
      rw [← hy]; exact (hb z hzm).1 cc, hhi⟩
    ·dsimp only; omega
   ·have hxz : R x z := by
     rcases hR.total x z (hne z hzm) with h1 | h1
     ·exact h1
     ·exact absurd ((hb z hzm).2 h1) cc
    repeat' first | refine Zad rfl ?_ | refine Zac ?_ | refine wR ?_ | (refine rc (c1) rfl ?_ ?_; (· first | rfl | simp (disch := omega) only [go_sem, simprocAttr, w1, w2, g1, g0, l0, cc])) | (refine Zaa rfl rfl (fun hc => ?_) (fun hc => ?_) <;> try simp only [hcL] at hc) | (refine Zab _ rfl rfl (fun hc => ?_) (fun hc => ?_) <;> (try simp only [hcL] at hc) <;> try omega) | simp (disch := omega) only [go_sem, simprocAttr, w1, w2, g1, g0, l0, cc] | apply And.intro | omega | decide +kernel
    refine ⟨(i, h), ?_, eL [] _ _ (by refine ⟨?_, ?_⟩ <;> (repeat' first | exact fmn | refine fmc ⟨(by first | rfl | (simp (disch := omega) only [go_sem, simprocAttr, inL]; first | done | omega | (congr 1; done))), ?_⟩); done), ?_⟩
    ·exact ⟨by omega, by omega, hlo, fun y hy => by
      dsimp only at hy
      rw [hz, Option.some.injEq] at hy
      rw [← hy]; exact hxz⟩
    ·dsimp only; omega
  ·have : i = j := by omega
   subst this
   have hfin := hend i hj hlo hhi
   repeat' first | refine Zad rfl ?_ | refine Zac ?_ | refine wR ?_ | (refine Zaa rfl rfl (fun hc => ?_) (fun hc => ?_) <;> try simp only [hcL] at hc) | (refine Zab _ rfl rfl (fun hc => ?_) (fun hc => ?_) <;> (try simp only [hcL] at hc) <;> try omega) | simp (disch := omega) only [go_sem, simprocAttr] | apply And.intro | omega | decide +kernel
   refine Zap (κ := Nat) (fun (k : Nat) => k ≤ i) (fun (k : Nat) => [(0, .ref 1000 2 0 N N), (10, .int ((A0 + 1 + i : Nat) : Int)), (13, .int ((A0 + k : Nat) : Int))]) (fun (k : Nat) => [(1000, .row 2 ((L k).map (elD v p)))]) (fun (k : Nat) => i - k) 0 ?_ ?_ ?_
   ·exact Nat.zero_le _
   ·exact eL [] _ _ (by refine ⟨?_, ?_⟩ <;> (repeat' first | exact fmn | refine fmc ⟨(by first | rfl | (simp (disch := omega) only [go_sem, simprocAttr, inL, Nat.add_zero]; first | done | omega | (congr 1; done))), ?_⟩); done)
   ·intro k hk
    have e1 : ((A0 + 1 + i : Nat) : Int) - 1 = ((A0 + i : Nat) : Int) := by omega
    rcases Nat.lt_or_ge k i with hlk | hgk
    ·obtain ⟨z, hz⟩ := Zan (l := B) (k := k) (by omega)
     have q1 := hpa (k) (by omega)
     have q2 := hpn k z hz
     have q3 := hpu k z hz
     have q4 := hpl (k) (by omega)
     have e2 : ((A0 + k : Nat) : Int) + 1 = ((A0 + k + 1 : Nat) : Int) := by omega
     have q5 : ((L k).set (A0 + k) z)[A0 + k + 1]? = some z := by rw [List.getElem?_set, if_neg (by omega), q2]
     have q6 : (((L k).map (elD v p)).set (A0 + k) (elD v p z))[A0 + k + 1]? = some (elD v p z) := by rw [← List.map_set, List.getElem?_map, q5]; rfl
     have q7 : (((L k).map (elD v p)).set (A0 + k) (elD v p z)).set (A0 + k + 1) (elD v p x) = (L (k + 1)).map (elD v p) := by rw [← q3, List.map_set, List.map_set]
     repeat' first | refine Zad rfl ?_ | refine Zac ?_ | refine wR ?_ | (refine Zaa rfl rfl (fun hc => ?_) (fun hc => ?_) <;> try simp only [hcL] at hc) | (refine Zab _ rfl rfl (fun hc => ?_) (fun hc => ?_) <;> (try simp only [hcL] at hc) <;> try omega) | simp (disch := omega) only [go_sem, simprocAttr, e1, e2, q1, q2, q4, List.length_set, q6, q7] | apply And.intro | omega | decide +kernel
     refine ⟨k + 1, ?_, eL [] _ _ (by refine ⟨?_, ?_⟩ <;> (repeat' first | exact fmn | refine fmc ⟨(by first | rfl | (simp (disch := omega) only [go_sem, simprocAttr, inL, q7, Nat.add_assoc]; first | done | omega | (congr 1; done))), ?_⟩); done), ?_⟩
     ·omega
     ·omega
    ·have : k = i := by omega
     subst this
     repeat' first | refine Zad rfl ?_ | refine Zac ?_ | refine wR ?_ | (refine Zaa rfl rfl (fun hc => ?_) (fun hc => ?_) <;> try simp only [hcL] at hc) | (refine Zab _ rfl rfl (fun hc => ?_) (fun hc => ?_) <;> (try simp only [hcL] at hc) <;> try omega) | simp (disch := omega) only [go_sem, simprocAttr, e1] | apply And.intro | omega | decide +kernel
     refine ⟨_, Zbh.1 (eL [] [] [(1000, .row 2 (LT.map (elD v p)))] (by refine ⟨?_, ?_⟩ <;> (repeat' first | exact fmn | refine fmc ⟨(by first | rfl | (simp (disch := omega) only [go_sem, simprocAttr, inL, hfin]; first | done | omega | (congr 1; done))), ?_⟩); done)), ?_⟩
     exact ⟨⟨[], rfl, trivial⟩, fmc ⟨rfl, fmn⟩⟩
set_option maxHeartbeats 4000000 in
theorem merge_right (v : Nat → Int) (p : Nat → List D) (g : Nat) (c : Nat → Nat → Int) (R : Nat → Nat → Prop) (hR : Ord R) (hcmp : ∀ j k, Zah Tryz.prog g [elD v p j, elD v p k] (.int (c j k)))
  (P A Q T : List Nat) (y : Nat) (hA2 : 2 ≤ A.length) (hAs : A.Pairwise R) (hb : ∀ z, z ∈ A → Back c R z y) (hne : ∀ z, z ∈ A → z ≠ y) (hT : T.Perm (A ++ [y])) (hTs : T.Pairwise R) (N : Nat) (hN : P.length + (A.length + 1) + Q.length = N) (hN1 : N ≤ 1000000) (a m b : Int)
  (ha : a = P.length) (hm : m = (P.length + A.length : Nat)) (hbb : b = (P.length + A.length + 1 : Nat)) :
  Zai Tryz.prog 122 [.ref 1000 2 0 N N, .int a, .int m, .int b, .d (.fn g [])] [(1000, .row 2 ((P ++ A ++ [y] ++ Q).map (elD v p)))] (.tup []) [(1000, .row 2 ((P ++ T ++ Q).map (elD v p)))] := by
 subst ha hm hbb
 have hrow0 : P ++ A ++ [y] ++ Q = putN P A Q y A.length := by simp [putN]
 rw [hrow0]
 have hpl : ∀ k, k ≤ A.length → (putN P A Q y k).length = N := fun k hk => by rw [putN_len hk]; omega
 have hpa : ∀ k, k ≤ A.length → (putN P A Q y k)[P.length + k]? = some y := fun k hk => putN_at hk
 have hpn : ∀ k z, A[k]? = some z → (putN P A Q y (k + 1))[P.length + k]? = some z := fun k z => putN_prev
 have hpu : ∀ k z, A[k]? = some z → ((putN P A Q y (k + 1)).set (P.length + k + 1) z).set (P.length + k) y = putN P A Q y k := fun k z => putN_down
 have hp0 : ∀ k z, A[k]? = some z → (putN P A Q y A.length)[P.length + k]? = some z := fun k z hz => by
  have e : putN P A Q y A.length = P ++ (A ++ (y :: Q)) := by simp [putN]
  rw [e, List.getElem?_append_right (by omega), Nat.add_sub_cancel_left, List.getElem?_append_left (List.getElem?_eq_some_iff.1 hz).1, hz]
 have hend : ∀ i, i ≤ A.length → (∀ z, 0 < i → A[i - 1]? = some z → R z y) → (∀ z, A[i]? = some z → R y z) → P ++ T ++ Q = putN P A Q y i := fun i hi h1 h2 => by
  have h3 := put_sorted hR hi hAs h1 h2
  have h4 : (A.take i ++ y :: A.drop i).Perm (A ++ [y]) := by
   refine List.perm_middle.trans ?_
   rw [List.take_append_drop]; exact List.perm_append_comm (l₁ := [y]) (l₂ := A)
  have : T = A.take i ++ y :: A.drop i := uniq hR (hT.trans h4.symm) hTs h3
  rw [this, putN]; simp
 generalize hA : P.length = A0 at *
 generalize putN P A Q y = L at *
 generalize P ++ T ++ Q = LT at *
 have d1 : ((A0 + A.length : Nat) : Int) - (A0 : Int) = A.length := by omega
 have d2 : ((A0 + A.length + 1 : Nat) : Int) - ((A0 + A.length : Nat) : Int) = 1 := by omega
 have d3 : ¬ ((A.length : Int) = 1) := by omega
 refine Zag Tryz.func122 rfl (by decide +kernel) (Nat.le_of_ble_eq_true rfl) rfl (Zba rfl) rfl rfl rfl ?_
 intro B0 X w0
 refine Zcs ?_
 have g0 := hpa (A.length) (Nat.le_refl _)
 have l0 := hpl (A.length) (Nat.le_refl _)
 repeat' first | refine Zad rfl ?_ | refine Zac ?_ | refine wR ?_ | (refine Zaa rfl rfl (fun hc => ?_) (fun hc => ?_) <;> try simp only [hcL] at hc) | (refine Zab _ rfl rfl (fun hc => ?_) (fun hc => ?_) <;> (try simp only [hcL] at hc) <;> try omega) | simp (disch := omega) only [go_sem, simprocAttr, d1, d2, d3] | apply And.intro | omega | decide +kernel
 refine Zap (κ := Nat × Nat) (fun (q : Nat × Nat) => match q with | (i, j) => i ≤ j ∧ j ≤ A.length ∧ (∀ z, 0 < i → A[i - 1]? = some z → R z y) ∧ (∀ z, A[j]? = some z → R y z)) (fun (q : Nat × Nat) => match q with | (i, j) => [(0, .ref 1000 2 0 N N), (2, .int ((A0 + A.length : Nat) : Int)), (4, .d (.fn g [])), (14, .int ((A0 + i : Nat) : Int)), (15, .int ((A0 + j : Nat) : Int))]) (fun (q : Nat × Nat) => match q with | (i, j) => [(1000, .row 2 ((L A.length).map (elD v p)))]) (fun (q : Nat × Nat) => match q with | (i, j) => j - i) (0, A.length) ?_ ?_ ?_
 ·exact ⟨Nat.zero_le _, Nat.le_refl _, fun z h => by omega, fun z hz => by rw [List.getElem?_eq_none (Nat.le_refl _)] at hz; cases hz⟩
 ·exact eL [] _ _ (by refine ⟨?_, ?_⟩ <;> (repeat' first | exact fmn | refine fmc ⟨(by first | rfl | (simp (disch := omega) only [go_sem, simprocAttr, inL, Nat.add_zero]; first | done | omega | (congr 1; done))), ?_⟩); done)
 ·rintro ⟨i, j⟩ ⟨hij, hj, hlo, hhi⟩
  dsimp only at hij hj hlo hhi ⊢
  rcases Nat.lt_or_ge i j with hlt | hge
  ·obtain ⟨h, hh⟩ : ∃ h, h = (i + j) / 2 := ⟨_, rfl⟩
   obtain ⟨z, hz⟩ := Zan (l := A) (k := h) (by omega)
   have hzm := List.mem_of_getElem? hz
   have c1 := hcmp y z
   have g1 := hp0 h z hz
   have w1 : IntKind.u64.wrap (((A0 + i : Nat) : Int) + ((A0 + j : Nat) : Int)) = ((A0 + i : Nat) : Int) + ((A0 + j : Nat) : Int) := wrapU (by omega) (by omega)
   have w2 : (((A0 + i : Nat) : Int) + ((A0 + j : Nat) : Int)).fdiv (2 ^ min 1 64) = ((A0 + h : Nat) : Int) := by rw [shr1 (by omega)]; omega
   by_cases cc : c y z < 0
   ·repeat' first | refine Zad rfl ?_ | refine Zac ?_ | refine wR ?_ | (refine rc (c1) rfl ?_ ?_; (· first | rfl | simp (disch := omega) only [go_sem, simprocAttr, w1, w2, g1, g0, l0, cc])) | (refine Zaa rfl rfl (fun hc => ?_) (fun hc => ?_) <;> try simp only [hcL] at hc) | (refine Zab _ rfl rfl (fun hc => ?_) (fun hc => ?_) <;> (try simp only [hcL] at hc) <;> try omega) | simp (disch := omega) only [go_sem, simprocAttr, w1, w2, g1, g0, l0, cc] | apply And.intro | omega | decide +kernel
    refine ⟨(i, h), ?_, eL [] _ _ (by refine ⟨?_, ?_⟩ <;> (repeat' first | exact fmn | refine fmc ⟨(by first | rfl | (simp (disch := omega) only [go_sem, simprocAttr, inL]; first | done | omega | (congr 1; done))), ?_⟩); done), ?_⟩
    ·exact ⟨by omega, by omega, hlo, fun x hx => by
      dsimp only at hx
      rw [hz, Option.some.injEq] at hx
      rw [← hx]; exact (hb z hzm).1 cc⟩
    ·dsimp only; omega
   ·have hxz : R z y := by
     rcases hR.total z y (hne z hzm) with h1 | h1
     ·exact h1
     ·exact absurd ((hb z hzm).2 h1) cc
    repeat' first | refine Zad rfl ?_ | refine Zac ?_ | refine wR ?_ | (refine rc (c1) rfl ?_ ?_; (· first | rfl | simp (disch := omega) only [go_sem, simprocAttr, w1, w2, g1, g0, l0, cc])) | (refine Zaa rfl rfl (fun hc => ?_) (fun hc => ?_) <;> try simp only [hcL] at hc) | (refine Zab _ rfl rfl (fun hc => ?_) (fun hc => ?_) <;> (try simp only [hcL] at hc) <;> try omega) | simp (disch := omega) only [go_sem, simprocAttr, w1, w2, g1, g0, l0, cc] | apply And.intro | omega | decide +kernel
    refine ⟨(h + 1, j), ?_, eL [] _ _ (by refine ⟨?_, ?_⟩ <;> (repeat' first | exact fmn | refine fmc ⟨(by first | rfl | (simp (disch := omega) only [go_sem, simprocAttr, inL, ← Int.natCast_add, Nat.add_assoc]; first | done | omega | (congr 1; done))), ?_⟩); done), ?_⟩
    ·exact ⟨by omega, by omega, fun x _ hx => by
      dsimp only at hx
      rw [Nat.add_sub_cancel, hz, Option.some.injEq] at hx
      rw [← hx]; exact hxz, hhi⟩
    ·dsimp only; omega
  ·have : i = j := by omega
   subst this
   have hfin := hend i hj hlo hhi
   repeat' first | refine Zad rfl ?_ | refine Zac ?_ | refine wR ?_ | (refine Zaa rfl rfl (fun hc => ?_) (fun hc => ?_) <;> try simp only [hcL] at hc) | (refine Zab _ rfl rfl (fun hc => ?_) (fun hc => ?_) <;> (try simp only [hcL] at hc) <;> try omega) | simp (disch := omega) only [go_sem, simprocAttr] | apply And.intro | omega | decide +kernel
   refine Zap (κ := Nat) (fun (k : Nat) => i ≤ k ∧ k ≤ A.length) (fun (k : Nat) => [(0, .ref 1000 2 0 N N), (14, .int ((A0 + i : Nat) : Int)), (17, .int ((A0 + k : Nat) : Int))]) (fun (k : Nat) => [(1000, .row 2 ((L k).map (elD v p)))]) (fun (k : Nat) => k) A.length ?_ ?_ ?_
   ·exact ⟨hj, Nat.le_refl _⟩
   ·exact eL [] _ _ (by refine ⟨?_, ?_⟩ <;> (repeat' first | exact fmn | refine fmc ⟨(by first | rfl | (simp (disch := omega) only [go_sem, simprocAttr, inL]; first | done | omega | (congr 1; done))), ?_⟩); done)
   ·rintro k ⟨hk1, hk2⟩
    rcases Nat.lt_or_ge i k with hlk | hgk
    ·obtain ⟨k, rfl⟩ : ∃ m, k = m + 1 := ⟨k - 1, by omega⟩
     obtain ⟨z, hz⟩ := Zan (l := A) (k := k) (by omega)
     have q1 := hpa (k + 1) (by omega)
     have q2 := hpn k z hz
     have q3 := hpu k z hz
     have q4 := hpl (k + 1) (by omega)
     have e1 : ((A0 + (k + 1) : Nat) : Int) - 1 = ((A0 + k : Nat) : Int) := by omega
     rw [← Nat.add_assoc] at q1 e1 ⊢
     have q5 : ((L (k + 1)).set (A0 + k + 1) z)[A0 + k]? = some z := by rw [List.getElem?_set, if_neg (by omega), q2]
     have q6 : (((L (k + 1)).map (elD v p)).set (A0 + k + 1) (elD v p z))[A0 + k]? = some (elD v p z) := by rw [← List.map_set, List.getElem?_map, q5]; rfl
     have q7 : (((L (k + 1)).map (elD v p)).set (A0 + k + 1) (elD v p z)).set (A0 + k) (elD v p y) = (L k).map (elD v p) := by rw [← q3, List.map_set, List.map_set]
     repeat' first | refine Zad rfl ?_ | refine Zac ?_ | refine wR ?_ | (refine Zaa rfl rfl (fun hc => ?_) (fun hc => ?_) <;> try simp only [hcL] at hc) | (refine Zab _ rfl rfl (fun hc => ?_) (fun hc => ?_) <;> (try simp only [hcL] at hc) <;> try omega) | simp (disch := omega) only [go_sem, simprocAttr, e1, q1, q2, q4, List.length_set, q6, q7] | apply And.intro | omega | decide +kernel
     refine ⟨k, ?_, eL [] _ _ (by refine ⟨?_, ?_⟩ <;> (repeat' first | exact fmn | refine fmc ⟨(by first | rfl | (simp (disch := omega) only [go_sem, simprocAttr, inL, q7]; first | done | omega | (congr 1; done))), ?_⟩); done), ?_⟩
     ·omega
     ·omega
    ·have : k = i := by omega
     subst this
     repeat' first | refine Zad rfl ?_ | refine Zac ?_ | refine wR ?_ | (refine Zaa rfl rfl (fun hc => ?_) (fun hc => ?_) <;> try simp only [hcL] at hc) | (refine Zab _ rfl rfl (fun hc => ?_) (fun hc => ?_) <;> (try simp only [hcL] at hc) <;> try omega) | simp (disch := omega) only [go_sem, simprocAttr] | apply And.intro | omega | decide +kernel
     refine ⟨_, Zbh.1 (eL [] [] [(1000, .row 2 (LT.map (elD v p)))] (by refine ⟨?_, ?_⟩ <;> (repeat' first | exact fmn | refine fmc ⟨(by first | rfl | (simp (disch := omega) only [go_sem, simprocAttr, inL, hfin]; first | done | omega | (congr 1; done))), ?_⟩); done)), ?_⟩
     exact ⟨⟨[], rfl, trivial⟩, fmc ⟨rfl, fmn⟩⟩
end Go.Proofs.YtldbcbclhpcofaaGreat
