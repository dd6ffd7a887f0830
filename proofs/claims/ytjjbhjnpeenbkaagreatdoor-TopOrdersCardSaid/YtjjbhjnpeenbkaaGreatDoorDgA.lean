/- Contracts of small functions on digraphs. -/
import Derived.Test.YtjjbhjnpeenbkaaGreatDoorTypes
import Derived.Test.YtjjbhjnpeenbkaaGreatDoorPSFam
import Derived.Test.YtjjbhjnpeenbkaaGreatDoorPSStable
import Derived.Test.YtjjbhjnpeenbkaaGreatDoorCi
import Derived.Test.YtjjbhjnpeenbkaaGreatDoorSxU
import Derived.Test.YtjjbhjnpeenbkaaGreatDoorSxK
set_option linter.unusedSimpArgs false
set_option linter.unusedVariables false
set_option maxHeartbeats 16000000
namespace Go.Proofs.YtjjbhjnpeenbkaaGreatDoor.Cyc
open Go Go.PS Go.Proofs
set_option maxRecDepth 100000
attribute [local irreducible] Zab wpG Zaa

abbrev Arc := Int × Int
abbrev ZaZ (a : Arc) : D := .ag [.int a.1, .int a.2]
theorem Zjz (p q : Arc) : (decide (p.1 = q.1) && decide (p.2 = q.2)) = decide (p = q) := by
 rw [Bool.eq_iff_iff]; simp [Prod.ext_iff]
abbrev Zak (l : List Arc) : D := .sl (l.map ZaZ)
abbrev Zac (l : List Int) : D := .sl (l.map D.int)
abbrev Gr := Int × List Arc
abbrev gD (g : Gr) : D := .ag [.int g.1, Zak g.2]
def arcIn (n : Int) (a : Arc) : Bool := decide (0 ≤ a.1 ∧ a.1 < n ∧ 0 ≤ a.2 ∧ a.2 < n)
def gOk (g : Gr) : Bool := decide (0 ≤ g.1 ∧ g.1 ≤ 64 ∧ g.2.length ≤ 256) && !g.2.any (fun a => !arcIn g.1 a)
theorem Zgz {g : Gr} (h : gOk g = true) : 0 ≤ g.1 ∧ g.1 ≤ 64 ∧ g.2.length ≤ 256 ∧ ∀ (k : Nat) a, g.2[k]? = some a → 0 ≤ a.1 ∧ a.1 < g.1 ∧ 0 ≤ a.2 ∧ a.2 < g.1 := by
 simp only [gOk, Bool.and_eq_true, decide_eq_true_eq, Bool.not_eq_true', List.any_eq_false] at h
 obtain ⟨⟨h1, h2, h3⟩, h4⟩ := h
 refine ⟨h1, h2, h3, fun k a hk => ?_⟩
 have := h4 a (List.mem_of_getElem? hk)
 simpa [arcIn] using this

theorem Ze5 (g : Gr) : Zaa Tryz.prog 97 [gD g] (.bool (gOk g)) := by
 obtain ⟨n, l⟩ := g
 refine kE Tryz.func97 ?_
 intro hat B X w0
 have hl := Zb0 0 1 hat rfl rfl
 rw [List.length_map] at hl
 refine kw kc0 kc0 ?_
 repeat' first | exact True.intro | refine Bn.mk ?_ ?_ | intro hc
 all_goals try (refine Zaj ?_; simp [gOk]; omega)
 refine Zaf (κ := Nat) (fun (k : Nat) => k ≤ l.length ∧ ∀ (j : Nat) y, j < k → l[j]? = some y → (!arcIn n y) = false) (fun (k : Nat) => [(1, .ptr 1 0 0 0), (20, .d (Zak l)), (21, .int l.length), (22, .int k)]) (fun (k : Nat) => [(1, .cells [.int n, .d (Zak l)])]) (fun (k : Nat) => l.length - k) 0 ?_ ?_ ?_
 ·exact ⟨Nat.zero_le _, fun j y h => by omega⟩
 ·exact kN kc0 []
 ·rintro k ⟨hk, hinv⟩
  rcases Nat.lt_or_ge k l.length with hlt | hge
  ·obtain ⟨p, hp⟩ := Zad hlt
   refine kw (kc1 hp) kc0 ?_
   repeat' first | exact True.intro | refine Bn.mk ?_ ?_ | intro hc
   all_goals try
    refine Zaj ?_
    rw [gOk, ZcJ hp (by simp [arcIn]; omega)]; simp
   ·refine ⟨k + 1, ?_, eL [] _ _ (by refine ⟨?_, ?_⟩ <;> (repeat' first | exact fmn | refine fmc ⟨(by first | rfl | (simp (disch := omega) only [go_sem, simprocAttr, inL]; first | done | omega | (congr 1; done))), ?_⟩); done), ?_⟩
    ·exact ⟨by omega, ZbE hinv hp (by simp [arcIn]; omega)⟩
    ·omega
  ·refine kw1 kc0 kc0 ?_
   refine Zaj ?_
   rw [gOk, Zde (fun j y hj => hinv j y (by omega))]
   simp; omega
theorem ZhI (g : Gr) : Zaa Tryz.prog 112 [gD g] (.bool (gOk g)) := by
 obtain ⟨n, l⟩ := g
 refine kE Tryz.func112 ?_
 intro hat B X w0
 have hl := Zb0 0 1 hat rfl rfl
 rw [List.length_map] at hl
 refine kw kc0 kc0 ?_
 repeat' first | exact True.intro | refine Bn.mk ?_ ?_ | intro hc
 all_goals try (refine Zaj ?_; simp [gOk]; omega)
 refine Zaf (κ := Nat) (fun (k : Nat) => k ≤ l.length ∧ ∀ (j : Nat) y, j < k → l[j]? = some y → (!arcIn n y) = false) (fun (k : Nat) => [(1, .ptr 1 0 0 0), (3, .int k)]) (fun (k : Nat) => [(1, .cells [.int n, .d (Zak l)])]) (fun (k : Nat) => l.length - k) 0 ?_ ?_ ?_
 ·exact ⟨Nat.zero_le _, fun j y h => by omega⟩
 ·exact kN kc0 []
 ·rintro k ⟨hk, hinv⟩
  rcases Nat.lt_or_ge k l.length with hlt | hge
  ·obtain ⟨p, hp⟩ := Zad hlt
   refine kw (kc1 hp) kc0 ?_
   repeat' first | exact True.intro | refine Bn.mk ?_ ?_ | intro hc
   all_goals try
    refine Zaj ?_
    rw [gOk, ZcJ hp (by simp [arcIn]; omega)]; simp
   ·refine ⟨k + 1, ?_, eL [] _ _ (by refine ⟨?_, ?_⟩ <;> (repeat' first | exact fmn | refine fmc ⟨(by first | rfl | (simp (disch := omega) only [go_sem, simprocAttr, inL]; first | done | omega | (congr 1; done))), ?_⟩); done), ?_⟩
    ·exact ⟨by omega, ZbE hinv hp (by simp [arcIn]; omega)⟩
    ·omega
  ·refine kw1 kc0 kc0 ?_
   refine Zaj ?_
   rw [gOk, Zde (fun j y hj => hinv j y (by omega))]
   simp; omega
theorem Znf (l m : List Arc) : Zaa Tryz.prog 174 [Zak l, Zak m] (.bool (decide (l = m))) := by
 refine kE Tryz.func174 ?_
 intro hat B X w0
 have hl := Zbg 0 hat rfl
 have hm := Zbg 1 hat rfl
 rw [List.length_map] at hl hm
 by_cases hlm : l.length = m.length
 ·refine kw1 kc0 kc0 ?_
  refine Zaf (κ := Nat) (fun (k : Nat) => k ≤ l.length ∧ l.take k = m.take k) (fun (k : Nat) => [(0, .d (Zak l)), (1, .d (Zak m)), (12, .int l.length), (13, .int k)]) (fun (k : Nat) => []) (fun (k : Nat) => l.length - k) 0 ?_ ?_ ?_
  ·exact ⟨Nat.zero_le _, rfl⟩
  ·exact kN kc0 []
  ·rintro k ⟨hk, hinv⟩
   rcases Nat.lt_or_ge k l.length with hlt | hge
   ·obtain ⟨p, hp⟩ := Zad hlt
    obtain ⟨q, hq⟩ := Zad (hlm ▸ hlt)
    refine kw (kc3 hp hq @Zjz) kc0 ?_
    repeat' first | exact True.intro | refine Bn.mk ?_ ?_ | intro hc
    ·refine Zaj ?_
     rw [decide_eq_false (Zfv hp hq hc)]
    ·refine ⟨k + 1, ?_, eL [] _ _ (by refine ⟨?_, ?_⟩ <;> (repeat' first | exact fmn | refine fmc ⟨(by first | rfl | (simp (disch := omega) only [go_sem, simprocAttr, inL]; first | done | omega | (congr 1; done))), ?_⟩); done), ?_⟩
     ·exact ⟨by omega, by rw [ZaE hp, ZaE hq, hinv, hc]⟩
     ·omega
   ·refine kw1 kc0 kc0 ?_
    refine Zaj ?_
    rw [List.take_of_length_le hge, List.take_of_length_le (by omega)] at hinv
    simp [hinv]
 ·refine kw1 kc0 kc0 ?_
  refine Zaj ?_
  rw [decide_eq_false]
  rintro rfl; exact hlm rfl
def ZdZ (l : List Int) (n : Int) : Bool := l.any (fun x => decide (x = n))
def placeF (l : List Int) (n : Int) : Int := ZcM (l.findIdx? (fun x => decide (x = n)))
theorem Zjp (l : List Int) (n : Int) : Zaa Tryz.prog 170 [Zac l, .int n] (.int (placeF l n)) := by
 refine kE Tryz.func170 ?_
 intro hat B X w0
 have hl := Zbg 0 hat rfl
 rw [List.length_map] at hl
 refine kw1 kc0 kc0 ?_
 refine Zaf (κ := Nat) (fun (k : Nat) => k ≤ l.length ∧ ∀ (j : Nat) y, j < k → l[j]? = some y → (decide (y = n)) = false) (fun (k : Nat) => [(0, .d (Zac l)), (1, .int n), (7, .int l.length), (8, .int k)]) (fun (k : Nat) => []) (fun (k : Nat) => l.length - k) 0 ?_ ?_ ?_
 ·exact ⟨Nat.zero_le _, fun j y h => by omega⟩
 ·exact kN kc0 []
 ·rintro k ⟨hk, hinv⟩
  rcases Nat.lt_or_ge k l.length with hlt | hge
  ·obtain ⟨p, hp⟩ := Zad hlt
   refine kw (kc1 hp) kc0 ?_
   repeat' first | exact True.intro | refine Bn.mk ?_ ?_ | intro hc
   ·refine Zag ?_
    rw [placeF, ZeC hp (by simpa using hc.symm) hinv]; rfl
   ·refine ⟨k + 1, ?_, eL [] _ _ (by refine ⟨?_, ?_⟩ <;> (repeat' first | exact fmn | refine fmc ⟨(by first | rfl | (simp (disch := omega) only [go_sem, simprocAttr, inL]; first | done | omega | (congr 1; done))), ?_⟩); done), ?_⟩
    ·exact ⟨by omega, ZbE hinv hp (by simpa using fun h => hc h.symm)⟩
    ·omega
  ·refine kw1 kc0 kc0 ?_
   refine Zag ?_
   rw [placeF, Ze2 (fun j y hy => hinv j y (by have := (List.getElem?_eq_some_iff.1 hy).1; omega) hy)]; rfl
theorem ZtM (l : List Int) (n : Int) : Zaa Tryz.prog 224 [Zac l, .int n] (.bool (ZdZ l n)) := by
 refine kE Tryz.func224 ?_
 intro hat B X w0
 refine kw1 kc0 (kc1 (Zjp l n)) ?_
 exact Zaj (Zgw _ l)
def Ziq (l : List Arc) (a : Arc) : Option Nat := l.findIdx? (fun x => decide (x = a))
theorem ZxH (l : List Int) (i : Nat) (x : Int) (hx : l[i]? = some x) : Zaa Tryz.prog 242 [Zac l, .int i] (.bool (ZdZ (l.take i) x)) := by
 have hi := (List.getElem?_eq_some_iff.1 hx).1
 refine kE Tryz.func242 ?_
 intro hat B X w0
 have hl := Zbg 0 hat rfl
 rw [List.length_map] at hl
 have hr := ZtM (l.take i) x
 simp only [Zac, List.map_take] at hr
 repeat' first | refine ZaK rfl ?_ | refine ZaG ?_ | refine wR ?_ | (refine rc (hr) rfl ?_ ?_; (· first | rfl | simp (disch := omega) only [go_sem, simprocAttr, hx])) | (refine ZaN rfl rfl (fun hc => ?_) (fun hc => ?_) <;> try simp only [hcL] at hc) | (refine ZaM _ rfl rfl (fun hc => ?_) (fun hc => ?_) <;> (try simp only [hcL] at hc) <;> try omega) | simp (disch := omega) only [go_sem, simprocAttr, hx] | exact ZeQ D.int 1 (fun _ => rfl) l | apply And.intro | omega | decide +kernel
 exact Zaj rfl

def Zgq (l : List Int) (n : Int) (k : Nat) : Int := match l[k]? with
 | some x => if x < 0 ∨ n ≤ x then 3 else if ZdZ (l.take k) x then 6 else 0
 | none => 0
def ZfD (l : List Int) (n : Int) : Int := Zdz (Zgq l n) l.length
theorem ZxV (l : List Int) (n : Int) : Zaa Tryz.prog 209 [Zac l, .int n] (.int (ZfD l n)) := by
 refine kE Tryz.func209 ?_
 intro hat B X w0
 have hl := Zbg 0 hat rfl
 rw [List.length_map] at hl
 refine kw1 kc0 kc0 ?_
 refine Zaf (κ := Nat) (fun (k : Nat) => k ≤ l.length ∧ Zdz (Zgq l n) k = 0) (fun (k : Nat) => [(0, .d (Zac l)), (1, .int n), (7, .d (Zac l)), (8, .int l.length), (9, .int k)]) (fun (k : Nat) => []) (fun (k : Nat) => l.length - k) 0 ?_ ?_ ?_
 ·exact ⟨Nat.zero_le _, rfl⟩
 ·exact kN kc0 []
 ·rintro k ⟨hk, hinv⟩
  rcases Nat.lt_or_ge k l.length with hlt | hge
  ·obtain ⟨p, hp⟩ := Zad hlt
   have hr := ZxH l k p hp
   refine kw (kc1 hp) (kc1 hr) ?_
   repeat' first | exact True.intro | refine Bn.mk ?_ ?_ | intro hc
   all_goals try
    refine Zag ?_
    first
     | exact (Zoy hlt hinv (by simp only [Zgq, hp]; rw [if_pos (by omega)]) (by decide)).symm
     | exact (Zoy hlt hinv (by simp only [Zgq, hp]; rw [if_neg (by omega), if_pos (by assumption)]) (by decide)).symm
   ·refine ⟨k + 1, ?_, eL [] _ _ (by refine ⟨?_, ?_⟩ <;> (repeat' first | exact fmn | refine fmc ⟨(by first | rfl | (simp (disch := omega) only [go_sem, simprocAttr, inL]; first | done | omega | (congr 1; done))), ?_⟩); done), ?_⟩
    ·refine ⟨by omega, ZoC hinv ?_⟩
     simp only [Zgq, hp]; rw [if_neg (by omega), if_neg (by simp [*])]
    ·omega
  ·refine kw1 kc0 kc0 ?_
   refine Zag ?_
   have : k = l.length := by omega
   rw [ZfD, ← this, hinv]
end Go.Proofs.YtjjbhjnpeenbkaaGreatDoor.Cyc
namespace Go.Proofs.YtjjbhjnpeenbkaaGreatDoor.Cyc
open Go Go.PS Go.Proofs
set_option maxRecDepth 100000
attribute [local irreducible] Zab wpG Zaa Zai

theorem Zle (l : List Arc) : ∀ d, d ∈ l.map ZaZ → d.cells.length = 2 := ZeQ ZaZ 2 (fun _ => rfl) l
theorem ZtB : Zaa Tryz.prog 210 [Zak []] (Zak []) := by
 refine kE Tryz.func210 ?_
 intro hat B X w0
 refine kw1 kc0 kc0 ?_
 refine ZiE 4 rfl ?_
 intro b
 cases b
 ·repeat' first | refine ZaK rfl ?_ | refine ZaG ?_ | refine Zcm (Nat.beq 5) ZbI ?_ | (refine ZaN rfl rfl (fun hc => ?_) (fun hc => ?_) <;> try simp only [hcL] at hc) | (refine ZaM _ rfl rfl (fun hc => ?_) (fun hc => ?_) <;> (try simp only [hcL] at hc) <;> try omega) | simp (disch := omega) only [go_sem, simprocAttr, Zan] | apply And.intro | omega | decide +kernel
  exact Zc5 rfl
 ·refine kw1 kc0 kc0 ?_
  exact Zc5 rfl
theorem Zj5 (l : List Arc) (hl : l ≠ []) (hn : l.length ≤ 1000000) : Zai Tryz.prog 210 [.d (Zak l)] [(2000, .dead)] (.ref 2000 2 0 l.length l.length) [(2000, .row 2 (l.map ZaZ))] := by
 have he : (l.map ZaZ).isEmpty = false := by simpa using hl
 have hpos : 0 < l.length := List.length_pos_iff.2 hl
 refine kM Tryz.func210 ?_
 intro B X w0
 repeat' first | refine ZaK rfl ?_ | refine Zcm (Nat.beq 5) ZbI ?_ | (refine ZaN rfl rfl (fun hc => ?_) (fun hc => ?_) <;> try simp only [hcL] at hc) | (refine ZaM _ rfl rfl (fun hc => ?_) (fun hc => ?_) <;> (try simp only [hcL] at hc) <;> try omega) | simp (disch := omega) only [go_sem, simprocAttr, he, Zan, Zau] | exact Zle l | apply And.intro | omega | decide +kernel
 refine kR kc0 [(2000, 7)] [(2, .ref 2000 2 0 _ _)] [(2000, .row 2 _)] ?_
 refine ZaG ?_
 exact ⟨rfl, List.forall_mem_cons.2 ⟨rfl, List.forall_mem_nil _⟩⟩

def ZjI (a : Arc) : Arc := (a.2, a.1)
def Zex (l : List Arc) (set : List Int) : List Arc := l.mapIdx fun i a => if ZdZ set i then ZjI a else a
theorem ZgU (l : List Arc) (set : List Int) : (Zex l set).length = l.length := by simp [Zex]
theorem Zi6 {l : List Arc} {set : List Int} {k : Nat} {a : Arc} (h : l[k]? = some a) : (Zex l set)[k]? = some (if ZdZ set k then ZjI a else a) := by
 simp [Zex, List.getElem?_mapIdx, h]
theorem ZxR (l : List Arc) : Zex l [] = l := by
 refine List.ext_getElem? fun u => ?_
 rcases Nat.lt_or_ge u l.length with h | h
 ·obtain ⟨a, ha⟩ := Zad h
  rw [Zi6 ha, ha]; simp [ZdZ]
 ·rw [List.getElem?_eq_none (by rw [ZgU]; exact h), List.getElem?_eq_none h]
theorem Zuo {set : List Int} {j : Nat} {x : Int} (hx : set[j]? = some x) (n : Int) : ZdZ (set.take (j + 1)) n = (ZdZ (set.take j) n || decide (x = n)) := by
 simp [ZdZ, ZaE hx]
theorem Zwx {l : List Arc} {set : List Int} {j i : Nat} {a : Arc} (hx : set[j]? = some (i : Int)) (ha : l[i]? = some a) :
  Zex l (set.take (j + 1)) = (Zex l (set.take j)).set i (ZjI a) := by
 refine List.ext_getElem? fun u => ?_
 rcases Nat.lt_or_ge u l.length with h | h
 ·obtain ⟨b, hb⟩ := Zad h
  rw [Zi6 hb, Zuo hx, List.getElem?_set, Zi6 hb, ZgU]
  by_cases hi : i = u
  ·subst hi
   rw [ha] at hb; cases hb
   simp [h]
  ·have : ¬ (i : Int) = u := by omega
   simp [hi, this]
 ·rw [List.getElem?_eq_none (by rw [ZgU]; exact h), List.getElem?_eq_none (by rw [List.length_set, ZgU]; exact h)]
theorem Zsz {e : Nat → Int} {n k : Nat} (h : Zdz e n = 0) (hk : k < n) : e k = 0 := by
 induction n with
 | zero => omega
 | succ n ih =>
  simp only [Zdz] at h
  split at h
  ·rename_i h0
   rcases Nat.lt_succ_iff_lt_or_eq.1 hk with h1 | rfl
   ·exact ih h0 h1
   ·exact h
  ·rename_i h0; exact (h0 h).elim
theorem Zrb {l : List Int} {n : Int} (h : ZfD l n = 0) {k : Nat} {x : Int} (hx : l[k]? = some x) : 0 ≤ x ∧ x < n := by
 have := Zsz h (List.getElem?_eq_some_iff.1 hx).1
 simp only [Zgq, hx] at this
 split at this
 ·omega
 ·omega
def ZeK (g : Gr) (set : List Int) : Gr × Int := if gOk g then (if ZfD set g.2.length = 0 then ((g.1, Zex g.2 set), 0) else ((0, []), ZfD set g.2.length)) else ((0, []), 1)
theorem Zwl (g : Gr) (set : List Int) : Zaa Tryz.prog 158 [gD g, Zac set] (.tup [gD (ZeK g set).1, .int (ZeK g set).2]) := by
 rcases h : gOk g with _ | _
 ·have hv : Zaa Tryz.prog 97 [gD g] (.bool false) := h ▸ Ze5 g
  have e : ZeK g set = ((0, []), 1) := by simp [ZeK, h]
  rw [e]
  refine kE Tryz.func158 ?_
  intro hat B X w0
  refine kw1 kc0 (kc1 hv) ?_
  refine ⟨_, rfl, ⟨_, _, _, _, rfl, ?_⟩, Zag ?_, trivial⟩
  ·simp (disch := omega) only [go_sem, simprocAttr]
   rfl
  ·rfl
 ·have hv : Zaa Tryz.prog 97 [gD g] (.bool true) := h ▸ Ze5 g
  obtain ⟨h1, h2, h3, h4⟩ := Zgz h
  obtain ⟨n, l⟩ := g
  dsimp only at h1 h2 h3 h4
  have hs := ZxV set l.length
  rcases Decidable.em (ZfD set l.length = 0) with c | c
  ·have e : ZeK (n, l) set = ((n, Zex l set), 0) := by simp [ZeK, h, c]
   rw [e]
   rw [c] at hs
   rcases Decidable.em (l = []) with hl0 | hl0
   ·subst hl0
    have hse : set = [] := by
     cases set with
     | nil => rfl
     | cons x t =>
      have := Zrb (x := x) (k := 0) c rfl
      simp at this; omega
    subst hse
    refine kE Tryz.func158 ?_
    intro hat B X w0
    have hcl := ZtB
    refine kw1 kc0 (kc3 hv hs hcl) ?_
    refine Zaf (κ := Nat) (fun (k : Nat) => k = 0) (fun (k : Nat) => [(4, .ptr 4 0 0 0), (7, .ptr 7 0 0 0), (30, .int 0), (31, .int k)]) (fun (k : Nat) => [(4, .cells [.int 0, .nilS]), (7, .cells [.int n, .d (.sl [])])]) (fun (k : Nat) => k) 0 ?_ ?_ ?_
    ·rfl
    ·exact kN kc0 []
    ·rintro k rfl
     refine kw1 kc0 kc0 ?_
     refine ⟨_, rfl, ⟨_, _, _, _, rfl, ?_⟩, Zag ?_, trivial⟩
     ·simp (disch := omega) only [go_sem, simprocAttr]
      rfl
     ·rfl
   ·have hcl := Zj5 l hl0 (by omega)
    refine kE Tryz.func158 ?_
    intro hat B X w0
    have hsl := Zbg 1 hat rfl
    rw [List.length_map] at hsl
    refine kw1 kc0 (kc3 hv hs (kmc [(2000, 27)] hcl)) ?_
    refine Zaf (κ := Nat) (fun (k : Nat) => k ≤ set.length) (fun (k : Nat) => [(2, .ptr 2 0 0 0), (4, .ptr 4 0 0 0), (7, .ptr 7 0 0 0), (29, .d (Zac set)), (30, .int set.length), (31, .int k)]) (fun (k : Nat) => [(2, .cells [.int n, .d (Zak l)]), (4, .cells [.int 0, .nilS]), (7, .cells [.int n, .ref 27 2 0 l.length l.length]), (27, .row 2 ((Zex l (set.take k)).map ZaZ))]) (fun (k : Nat) => set.length - k) 0 ?_ ?_ ?_
    ·exact Nat.zero_le _
    ·exact kN (kc2 @List.take_zero.{0} @ZxR) []
    ·intro k hk
     rcases Nat.lt_or_ge k set.length with hlt | hge
     ·obtain ⟨x, hx⟩ := Zad hlt
      have hxi := Zrb c hx
      obtain ⟨i, rfl⟩ : ∃ i : Nat, x = i := ⟨x.toNat, by omega⟩
      obtain ⟨p, hp⟩ := Zad (show i < l.length by omega)
      have hg := Zi6 (set := set.take k) hp
      have hstep := Zwx hx hp
      have hlen := ZgU l (set.take k)
      refine kw1 (kc4 hx hp hg hlen) kc0 ?_
      refine ⟨k + 1, ?_, kN (kc2 @hstep @List.map_set.{0,0}) [], ?_⟩
      ·omega
      ·omega
     ·refine kw1 kc0 kc0 ?_
      have : k = set.length := by omega
      subst this
      refine ⟨_, rfl, ⟨_, _, _, _, rfl, ?_⟩, Zag ?_, trivial⟩
      ·simp (disch := omega) only [go_sem, simprocAttr]
       simp [toD, gD, Zak, ZgU, List.take_of_length_le]
      ·rfl
  ·have e : ZeK (n, l) set = ((0, []), ZfD set l.length) := by simp [ZeK, h, c]
   rw [e]
   refine kE Tryz.func158 ?_
   intro hat B X w0
   refine kw1 kc0 (kc2 hv hs) ?_
   refine ⟨_, rfl, ⟨_, _, _, _, rfl, ?_⟩, Zag ?_, trivial⟩
   ·simp (disch := omega) only [go_sem, simprocAttr]
    rfl
   ·rfl
end Go.Proofs.YtjjbhjnpeenbkaaGreatDoor.Cyc
namespace Go.Proofs.YtjjbhjnpeenbkaaGreatDoor.Cyc
open Go Go.PS Go.Proofs
open Go.Cy (NA)
set_option maxRecDepth 100000
attribute [local irreducible] Zab wpG Zaa Zai

def tzF : Nat → Nat → Nat
 | 0, _ => 0
 | f + 1, x => if x % 2 = 1 then 0 else tzF f (x / 2) + 1
def tz (x : Nat) : Nat := tzF 8 x
theorem Zyz : tabs Tryz.prog = [(1, Zd8)] := by kernel_rfl
theorem ZwR : (Zep [(1, Zd8)] 1).length = 64 := by decide +kernel
def tzI (x : Nat) : Nat := ((IntKind.u64.wrap (IntKind.u64.wrap ((BitVec.ofInt 64 (x : Int) &&& BitVec.ofInt 64 (IntKind.u64.wrap (-(x : Int)))).toNat : Int) * 285870213051353865)).fdiv (2 ^ min 58 64)).toNat
theorem ZuO : ∀ x : Nat, x < 256 → 0 < x → (IntKind.u64.wrap (IntKind.u64.wrap ((BitVec.ofInt 64 (x : Int) &&& BitVec.ofInt 64 (IntKind.u64.wrap (-(x : Int)))).toNat : Int) * 285870213051353865)).fdiv (2 ^ min 58 64) = (tzI x : Int) ∧ tzI x < 64 ∧ Zd8[tzI x]? = some (tz x : Int) := by decide +kernel
theorem Zvj {k : Nat} {v : Int} (h : Zd8[k]? = some v) : (Zep [(1, Zd8)] 1).drop k = D.sc (.int .u8 v) :: (Zep [(1, Zd8)] 1).drop (k + 1) := by
 have h1 : (Zep [(1, Zd8)] 1)[k]? = some (D.sc (.int .u8 v)) := by
  show (Zd8.map fun v => D.sc (.int .u8 v))[k]? = _
  rw [List.getElem?_map, h]; rfl
 obtain ⟨h2, h3⟩ := List.getElem?_eq_some_iff.1 h1
 rw [List.drop_eq_getElem_cons h2, h3]
theorem Zxc (x : Nat) (h0 : 0 < x) (h1 : x < 256) : Zaa Tryz.prog 261 [.sc (.int .u64 x)] (.int (tz x)) := by
 obtain ⟨k, e1, e2, e3⟩ : ∃ k : Nat, (IntKind.u64.wrap (IntKind.u64.wrap ((BitVec.ofInt 64 (x : Int) &&& BitVec.ofInt 64 (IntKind.u64.wrap (-(x : Int)))).toNat : Int) * 285870213051353865)).fdiv (2 ^ min 58 64) = (k : Int) ∧ k < 64 ∧ Zd8[k]? = some (tz x : Int) := ⟨_, ZuO x h1 h0⟩
 have e4 := Zvj e3
 have e5 : (0 : Int) ≤ k := Int.natCast_nonneg _
 have e6 : IntKind.i64.wrap (tz x : Int) = tz x := by
  have : ∀ x : Nat, x < 256 → IntKind.i64.wrap (tz x : Int) = tz x := by decide +kernel
  exact this x h1
 refine kE Tryz.func261 ?_
 intro hat B X w0
 refine kw1 (kc7 @Zyz e1 e4 e6 e2 @ZwR @Int.toNat_natCast) kc0 ?_
 exact Zag rfl
theorem ZsA (x : Nat) (h0 : 0 < x) (h1 : x < 256) : Zaa Tryz.prog 236 [.sc (.int .u64 x)] (.int (tz x)) := by
 have h := Zxc x h0 h1
 refine kE Tryz.func236 ?_
 intro hat B X w0
 refine kw1 kc0 (kc1 h) ?_
 exact Zag rfl
end Go.Proofs.YtjjbhjnpeenbkaaGreatDoor.Cyc
namespace Go.Proofs.YtjjbhjnpeenbkaaGreatDoor.Cyc
open Go Go.PS Go.Proofs
open Go.Cy (NA Zb2 Zcu ZfP ZeG ZdT Zd6 atN inB ZdP fmF Zei)
set_option maxRecDepth 100000
attribute [local irreducible] Zab wpG Zaa Zai

abbrev Zay (n : Nat) : D := .int n
abbrev Zcn (l : List Nat) : D := .sl (l.map Zay)
def Zbb (c : Nat → Nat → Nat) (f : PV) : List PV := (List.range 64).map (fun i => PV.int (c (i / 8) (i % 8))) ++ [f]
theorem ZiM (c : Nat → Nat → Nat) (f : PV) : (Zbb c f).length = 65 := by simp [Zbb]
theorem ZvP (c : Nat → Nat → Nat) (f : PV) {v u : Nat} (hv : v < 8) (hu : u < 8) : ∃ r, (Zbb c f).drop (v * 8 + u) = .int (c v u) :: r := by
 have h1 : (Zbb c f)[v * 8 + u]? = some (.int (c v u)) := by
  rw [Zbb, List.getElem?_append_left (by simp; omega), List.getElem?_map, List.getElem?_range (by omega)]
  simp only [Option.map_some]
  rw [show (v * 8 + u) / 8 = v by omega, show (v * 8 + u) % 8 = u by omega]
 obtain ⟨h2, h3⟩ := List.getElem?_eq_some_iff.1 h1
 exact ⟨_, by rw [List.drop_eq_getElem_cons h2, h3]⟩
theorem Zro (n : PV) (c : Nat → Nat → Nat) (f : PV) {v u : Nat} (hv : v < 8) (hu : u < 8) : ∃ r, (n :: Zbb c f).drop (1 + v * 8 + u) = .int (c v u) :: r := by
 rw [show 1 + v * 8 + u = (v * 8 + u) + 1 by omega, List.drop_succ_cons]
 exact ZvP c f hv hu
theorem ZkP (c : Nat → Nat → Nat) (f : PV) : (Zbb c f).drop 64 = [f] := by
 rw [Zbb, List.drop_left' (by simp)]
theorem Zms : ∀ x : Nat, x < 256 → 0 < x → tz x < 8 ∧ Go.Cy.bits 8 x = tz x :: Go.Cy.bits 8 (x &&& (x - 1)) ∧ (x &&& (x - 1)) < x := by decide +kernel
theorem Zox {n s : Nat} (h : n ≤ 8) (hs : s < 2 ^ n) : Go.Cy.bits n s = Go.Cy.bits 8 s := by
 have e : List.range 8 = List.range n ++ (List.range (8 - n)).map (n + ·) := by
  rw [show 8 = n + (8 - n) by omega, List.range_add]; simp
 rw [Go.Cy.bits, Go.Cy.bits, e, List.filter_append]
 have : ((List.range (8 - n)).map (n + ·)).filter (fun u => s.testBit u) = [] := by
  rw [List.filter_eq_nil_iff]
  intro u hu
  obtain ⟨k, _, rfl⟩ := List.mem_map.1 hu
  rw [Nat.testBit_lt_two_pow (Nat.lt_of_lt_of_le hs (Nat.pow_le_pow_right (by decide) (by omega)))]
  decide
 rw [this, List.append_nil]
theorem Zvc {n x : Nat} (h : n ≤ 8) (h0 : 0 < x) (hx : x < 2 ^ n) : tz x < n := by
 have := Go.Cy.pow_le8 h
 obtain ⟨_, h2, _⟩ := Zms x (by omega) h0
 have h3 : tz x ∈ Go.Cy.bits n x := by rw [Zox h hx, h2]; simp
 exact (Go.Cy.mem_bits.1 h3).1
def Zfj (f : Nat → Nat) (x : Nat) : Nat := ((Go.Cy.bits 8 x).map f).sum
theorem Zy9 {f : Nat → Nat} {x : Nat} (hx : x < 256) (h0 : 0 < x) : Zfj f x = f (tz x) + Zfj f (x &&& (x - 1)) := by
 obtain ⟨_, h2, _⟩ := Zms x hx h0
 rw [Zfj, h2]; simp [Zfj]
theorem Zsk (f : Nat → Nat) : Zfj f 0 = 0 := by
 have : Go.Cy.bits 8 0 = [] := by decide +kernel
 rw [Zfj, this]; rfl
theorem ZqH {f : Nat → Nat} {k : Nat} : ∀ {l : List Nat}, (∀ u, u ∈ l → f u ≤ k) → (l.map f).sum ≤ l.length * k
 | [], _ => by simp
 | x :: l, h => by
  have h1 := h x (by simp)
  have h2 := ZqH fun u hu => h u (List.mem_cons_of_mem _ hu)
  simp only [List.map_cons, List.sum_cons, List.length_cons, Nat.add_mul]; omega
theorem Zvz {f : Nat → Nat} {k x : Nat} (h : ∀ u, f u ≤ k) : Zfj f x ≤ 8 * k := by
 refine Nat.le_trans (ZqH fun u _ => h u) (Nat.mul_le_mul_right _ ?_)
 exact Nat.le_trans (List.length_filter_le _ _) (by simp)
theorem ZsO (n : Nat) (c : Nat → Nat → Nat) (fm : List Nat) (s : Nat) : Zcu n c fm s ≤ 1048576 := by
 cases s with
 | zero => rw [Go.Cy.costN_zero]; omega
 | succ k => rw [Go.Cy.costN_succ, ZfP]; exact Go.Cy.foldMin_le.1
def ZcX (n : Nat) (c : Nat → Nat → Nat) (fm : List Nat) (k v : Nat) : Nat := Zd6 (ZdT n fm (k + 1)) (ZeG n c (Zb2 n c fm k) (k + 1)) (List.range v) 1048576
theorem ZsP (n : Nat) (c : Nat → Nat → Nat) (fm : List Nat) (k : Nat) : ZcX n c fm k 0 = 1048576 := rfl
theorem ZtV (n : Nat) (c : Nat → Nat → Nat) (fm : List Nat) (k v : Nat) : ZcX n c fm k (v + 1) = if ZdT n fm (k + 1) v = true then min (ZcX n c fm k v) (ZeG n c (Zb2 n c fm k) (k + 1) v) else ZcX n c fm k v := by
 simp [ZcX, Zd6, List.range_succ]
def Zdc (n : Nat) (c : Nat → Nat → Nat) (fm : List Nat) (L k : Nat) (x : Nat) : List D := (Zb2 n c fm k).map Zay ++ Zay x :: List.replicate (L - (k + 2)) (.int 0)
def Zek (n : Nat) (c : Nat → Nat → Nat) (fm : List Nat) (L k : Nat) : List D := (Zb2 n c fm k).map Zay ++ List.replicate (L - (k + 1)) (.int 0)
theorem ZwC (n : Nat) (c : Nat → Nat → Nat) (fm : List Nat) (L k x y : Nat) : (Zdc n c fm L k x).set (k + 1) (Zay y) = Zdc n c fm L k y := by
 have h := Go.Cy.costL_len n c fm k
 rw [Zdc, List.set_append_right _ _ (by simp [h]), List.length_map, h, Nat.sub_self]; rfl
theorem Zy2 (n : Nat) (c : Nat → Nat → Nat) (fm : List Nat) {L k : Nat} (y : Nat) (hk : k + 1 < L) : (Zek n c fm L k).set (k + 1) (Zay y) = Zdc n c fm L k y := by
 have h := Go.Cy.costL_len n c fm k
 rw [Zek, List.set_append_right _ _ (by simp [h]), List.length_map, h, Nat.sub_self, show L - (k + 1) = (L - (k + 2)) + 1 by omega, List.replicate_succ]; rfl
theorem ZrW (n : Nat) (c : Nat → Nat → Nat) (fm : List Nat) {L k x : Nat} (hk : k + 1 < L) : (Zdc n c fm L k x).length = L := by
 simp [Zdc, Go.Cy.costL_len]; omega
theorem ZyY (n : Nat) (c : Nat → Nat → Nat) (fm : List Nat) {L k : Nat} (hk : k < L) : (Zek n c fm L k).length = L := by
 simp [Zek, Go.Cy.costL_len]; omega
theorem Zp6 (n : Nat) (c : Nat → Nat → Nat) (fm : List Nat) {k s : Nat} (h : s ≤ k) : (Zb2 n c fm k)[s]? = some (Zcu n c fm s) := by
 have h1 : s < (Zb2 n c fm k).length := by rw [Go.Cy.costL_len]; omega
 have h2 := Go.Cy.costL_at n c fm h
 rw [atN, List.getElem?_eq_getElem h1] at h2
 rw [List.getElem?_eq_getElem h1]
 simp only [Option.getD_some] at h2
 rw [h2]
theorem Zwd (n : Nat) (c : Nat → Nat → Nat) (fm : List Nat) {L k x s : Nat} (h : s ≤ k) : (Zdc n c fm L k x)[s]? = some (Zay (Zcu n c fm s)) := by
 rw [Zdc, List.getElem?_append_left (by simp [Go.Cy.costL_len]; omega), List.getElem?_map, Zp6 n c fm h]; rfl
theorem Zt4 (n : Nat) (c : Nat → Nat → Nat) (fm : List Nat) (L k x : Nat) : (Zdc n c fm L k x)[k + 1]? = some (Zay x) := by
 have h := Go.Cy.costL_len n c fm k
 rw [Zdc, List.getElem?_append_right (by simp [h])]; simp [h]
theorem Zwv (n : Nat) (c : Nat → Nat → Nat) (fm : List Nat) {L k s : Nat} (h : s ≤ k) : (Zek n c fm L k)[s]? = some (Zay (Zcu n c fm s)) := by
 rw [Zek, List.getElem?_append_left (by simp [Go.Cy.costL_len]; omega), List.getElem?_map, Zp6 n c fm h]; rfl
theorem ZzT (n : Nat) (c : Nat → Nat → Nat) (fm : List Nat) {L k : Nat} (h : k + 1 < L) : (Zek n c fm L k)[k + 1]? = some (.int 0) := by
 have h1 := Go.Cy.costL_len n c fm k
 rw [Zek, List.getElem?_append_right (by simp [h1]), List.getElem?_replicate]
 simp [h1]; omega
theorem Zx3 (n : Nat) (c : Nat → Nat → Nat) (fm : List Nat) (L k : Nat) : Zdc n c fm L k (ZcX n c fm k n) = Zek n c fm L (k + 1) := by
 have : Zb2 n c fm (k + 1) = Zb2 n c fm k ++ [ZcX n c fm k n] := rfl
 rw [Zdc, Zek, this, List.map_append, List.append_assoc]; rfl
theorem ZsS (n : Nat) (c : Nat → Nat → Nat) (fm : List Nat) {L : Nat} (h : 0 < L) : Zek n c fm L 0 = List.replicate L (.int 0) := by
 obtain ⟨k, rfl⟩ : ∃ k, L = k + 1 := ⟨L - 1, by omega⟩
 rw [List.replicate_succ]; rfl
theorem ZrB (n : Nat) (c : Nat → Nat → Nat) (fm : List Nat) (h8 : n ≤ 8) (hcc : ∀ u v, c u v ≤ 256) (hl : fm.length = n) (hf : ∀ v, atN fm v < 2 ^ n) :
  Zai Tryz.prog 207 [.ptr 1000 0 0 0] [(1000, .cells (.int n :: Zbb c (.ref 1001 1 0 n n))), (1001, .row 1 (fm.map Zay))] (.int (ZdP n c fm)) [(1000, .cells (.int n :: Zbb c (.ref 1001 1 0 n n))), (1001, .row 1 (fm.map Zay))] := by
 have hpos := Go.Cy.pow_pos' n
 have hp8 := Go.Cy.pow_le8 h8
 have hsh := Zjc n h8
 obtain ⟨L, hL⟩ : ∃ L, L = 2 ^ n := ⟨_, rfl⟩
 rw [← hL] at hpos hp8 hsh
 have hx1 := ZkP c (.ref 1001 1 0 n n)
 refine kM Tryz.func207 ?_
 intro B X w0
 refine kw1 (kc1 hsh) kc0 ?_
 refine Zaf (κ := Nat) (fun (k : Nat) => k < L) (fun (k : Nat) => [(0, .ptr 1000 0 0 0), (3, .ref 14 1 0 L L), (4, .int (k + 1 : Nat))]) (fun (k : Nat) => [(14, .row 1 (Zek n c fm L k)), (1000, .cells (.int n :: Zbb c (.ref 1001 1 0 n n))), (1001, .row 1 (fm.map Zay))]) (fun (k : Nat) => L - k) 0 ?_ ?_ ?_
 ·exact hpos
 ·exact kN (kc1 (ZsS n c fm hpos)) []
 ·intro k hk
  have hpl := ZyY n c fm hk
  rcases Nat.lt_or_ge (k + 1) L with hlt | hge
  ·have hset := Zy2 n c fm 1048576 hlt
   have hnx := ZzT n c fm hlt
   refine kw1 (kc4 hx1 hpl hset hnx) kc0 ?_
   refine Zaf (κ := Nat) (fun (v : Nat) => v ≤ n) (fun (v : Nat) => [(0, .ptr 1000 0 0 0), (3, .ref 14 1 0 L L), (4, .int (k + 1 : Nat)), (27, .int n), (28, .int v)]) (fun (v : Nat) => [(14, .row 1 (Zdc n c fm L k (ZcX n c fm k v))), (1000, .cells (.int n :: Zbb c (.ref 1001 1 0 n n))), (1001, .row 1 (fm.map Zay))]) (fun (v : Nat) => n - v) 0 ?_ ?_ ?_
   ·exact Nat.zero_le _
   ·exact kN (kc1 @ZsP) []
   ·intro v hv
    have hkl : (Zdc n c fm L k (ZcX n c fm k v)).length = L := ZrW n c fm hlt
    rcases Nat.lt_or_ge v n with hvl | hvg
    ·obtain ⟨f, hfv⟩ := Zad (show v < fm.length by omega)
     have hfa : atN fm v = f := by rw [atN, hfv]; rfl
     have hf8 : f < 2 ^ n := by rw [← hfa]; exact hf v
     have hb := Zzh (k + 1) (by omega) v (by omega)
     have hsucc := ZtV n c fm k v
     by_cases hbit : (k + 1).testBit v = true
     ·rw [if_pos hbit] at hb
      obtain ⟨p, hp⟩ : ∃ p, p = 2 ^ v := ⟨_, rfl⟩
      obtain ⟨r, hr⟩ : ∃ r, r = k + 1 - 2 ^ v := ⟨_, rfl⟩
      have hrk := (Go.Cy.clr (k + 1) (by omega) v (by omega) hbit).1
      rw [← hr] at hrk
      have hp8' : p < 256 := by rw [hp]; exact Nat.pow_lt_pow_right (n := 8) (by decide) (by omega)
      have e1 := Zjc v (by omega)
      rw [← hp] at e1
      have e2 := ZqG (a := k + 1) (b := p) (by omega) (by omega)
      rw [hp, Zuf (k + 1) (by omega) v (by omega) hbit, ← hr, ← hp] at e2
      have e3 := ZqG (a := f) (b := r) (by omega) (by omega)
      have hz := ZwS (b := r) hf8
      have hok : ZdT n fm (k + 1) v = inB n f r := by rw [ZdT, hbit, hfa, hr]; rfl
      rw [hok] at hsucc
      have hg := Zwd n c fm (L := L) (x := ZcX n c fm k v) (show r ≤ k by omega)
      rcases hin : inB n f r with _ | _
      ·rw [hin] at hsucc hz
       have hz' : ¬ ((Zez f r : Nat) : Int) = 0 := fun h => by have := hz.1 (by omega); cases this
       refine kw1 (kc8 hx1 hkl hfv hb e1 e2 e3 @hz') kc0 ?_
       refine ⟨v + 1, ?_, eL [] _ _ (by refine ⟨?_, ?_⟩ <;> (repeat' first | exact fmn | refine fmc ⟨(by first | rfl | (simp (disch := omega) only [go_sem, simprocAttr, inL, hsucc, if_neg Bool.false_ne_true]; first | done | omega | (congr 1; done))), ?_⟩); done), ?_⟩
       ·omega
       ·omega
      ·rw [hin] at hsucc hz
       have hz' := hz.2 rfl
       have hr8 : r < 256 := by omega
       have hcg : ZeG n c (Zb2 n c fm k) (k + 1) v = Zcu n c fm r + Zfj (c v) r := by
        rw [ZeG, ← hr, Go.Cy.costL_at n c fm (by omega), Zox h8 (by omega)]; rfl
       have hcn := ZsO n c fm r
       have hsb := Zvz (x := r) (hcc v)
       refine kw1 (kc8 hx1 hkl hfv hb e1 e2 e3 (kc2 @hz' hg)) kc0 ?_
       refine Zaf (κ := Nat × Nat) (fun (q : Nat × Nat) => match q with | (x, y) => x ≤ r ∧ y + Zfj (c v) x = ZeG n c (Zb2 n c fm k) (k + 1) v) (fun (q : Nat × Nat) => match q with | (x, y) => [(0, .ptr 1000 0 0 0), (3, .ref 14 1 0 L L), (4, .int (k + 1 : Nat)), (5, .int v), (7, .int y), (8, .int x), (27, .int n), (28, .int v)]) (fun (q : Nat × Nat) => match q with | (x, y) => [(14, .row 1 (Zdc n c fm L k (ZcX n c fm k v))), (1000, .cells (.int n :: Zbb c (.ref 1001 1 0 n n))), (1001, .row 1 (fm.map Zay))]) (fun (q : Nat × Nat) => match q with | (x, y) => x) (r, Zcu n c fm r) ?_ ?_ ?_
       ·exact ⟨Nat.le_refl _, hcg.symm⟩
       ·exact kN kc0 []
       ·rintro ⟨x, y⟩ ⟨hxr, hy⟩
        dsimp only at hxr hy ⊢
        rcases Nat.eq_zero_or_pos x with rfl | hx0
        ·rw [Zsk, Nat.add_zero] at hy
         have hcu := Zt4 n c fm L k (ZcX n c fm k v)
         have hst := ZwC n c fm L k (ZcX n c fm k v)
         have hmin : (if (y : Int) < (ZcX n c fm k v : Nat) then (y : Int) else (ZcX n c fm k v : Nat)) = (min (ZcX n c fm k v) y : Nat) := by omega
         refine kw1 (kc5 hx1 hkl hcu hst hmin) kc0 ?_
         refine ⟨v + 1, ?_, kN (kc3 @hsucc @if_pos.{0} hy) [], ?_⟩
         ·omega
         ·omega
        ·have htz := ZsA x hx0 (by omega)
         have htn := Zvc h8 hx0 (by omega : x < 2 ^ n)
         have hstep := Zy9 (f := c v) (show x < 256 by omega) hx0
         have hlt2 := (Zms x (by omega) hx0).2.2
         obtain ⟨q, hq⟩ := Zro (.int n) c (.ref 1001 1 0 n n) (show v < 8 by omega) (show tz x < 8 by omega)
         have hcv := hcc v (tz x)
         have hw := ZkS (x := (y : Int) + (c v (tz x) : Nat)) (by omega) (by omega)
         have hu64 : IntKind.u64.wrap (x : Int) = x := by
          have : ∀ x : Nat, x < 256 → IntKind.u64.wrap (x : Int) = x := by decide +kernel
          exact this x (by omega)
         have hand := Zye (a := x) (b := x - 1) (by omega) (by omega)
         have hx1' : ((x : Int) - 1) = ((x - 1 : Nat) : Int) := by omega
         refine kw1 (kc7 hx1 hkl hu64 hq hw @hx1' hand) (kc1 htz) ?_
         refine ⟨(x &&& (x - 1), y + c v (tz x)), ?_, kN kc0 [], ?_⟩
         ·dsimp only
          exact ⟨by omega, by omega⟩
         ·exact hlt2
     ·rw [if_neg hbit] at hb
      have hok : ZdT n fm (k + 1) v = false := by rw [ZdT]; simp [hbit]
      rw [hok] at hsucc
      refine kw1 (kc4 hx1 hkl hfv hb) kc0 ?_
      refine ⟨v + 1, ?_, eL [] _ _ (by refine ⟨?_, ?_⟩ <;> (repeat' first | exact fmn | refine fmc ⟨(by first | rfl | (simp (disch := omega) only [go_sem, simprocAttr, inL, hsucc, if_neg Bool.false_ne_true]; first | done | omega | (congr 1; done))), ?_⟩); done), ?_⟩
      ·omega
      ·omega
    ·have : v = n := by omega
     subst this
     refine kw1 (kc1 hx1) kc0 ?_
     refine ⟨k + 1, ?_, kN (kc1 @Zx3) [], ?_⟩
     ·omega
     ·omega
  ·have : k + 1 = L := by omega
   have hlg := Zwv n c fm (L := L) (k := k) (Nat.le_refl k)
   have e1 : (L : Int) - 1 = k := by omega
   have e2 : ZdP n c fm = Zcu n c fm k := by rw [ZdP]; congr 1; omega
   rw [e2]
   refine kw1 (kc3 hpl e1 hlg) kc0 ?_
   exact rfl
end Go.Proofs.YtjjbhjnpeenbkaaGreatDoor.Cyc
namespace Go.Proofs.YtjjbhjnpeenbkaaGreatDoor.Cyc
open Go Go.PS Go.Proofs
open Go.Cy (NA InN atN ZdP cnt ind ZbM Ze0 Zcp Zbv Zdt)
set_option maxRecDepth 100000
attribute [local irreducible] Zab wpG Zaa Zai

def castA (l : List NA) : List Arc := l.map fun a => ((a.1 : Int), (a.2 : Int))
theorem castA_len (l : List NA) : (castA l).length = l.length := by simp [castA]
theorem castA_get {l : List NA} {k : Nat} {a : NA} (h : l[k]? = some a) : (castA l)[k]? = some ((a.1 : Int), (a.2 : Int)) := by simp [castA, h]
theorem ZlU (objs : Nat → Ob) (k : Nat) (c : Nat → Nat → Nat) (f : PV) : (Zbb c f).flatMap (PV.refs objs k) = PV.refs objs k f := by
 have h : ∀ l : List Nat, (l.map (fun i => PV.int (c (i / 8) (i % 8)))).flatMap (PV.refs objs k) = [] := by
  intro l
  induction l with
  | nil => rfl
  | cons a l ih => rw [List.map_cons, List.flatMap_cons, ih]; cases k <;> rfl
 rw [Zbb, List.flatMap_append, h]
 simp
theorem Zli (g : Nat → Nat) (c : Nat → Nat → Nat) (f : PV) : (Zbb c f).map (PV.ren g) = Zbb c (f.ren g) := by
 rw [Zbb, Zbb, List.map_append, List.map_map]; rfl
theorem Zxx (n : PV) (c c' : Nat → Nat → Nat) (f : PV) {u v : Nat} (hu : u < 8) (hv : v < 8) (h : ∀ i j, i < 8 → j < 8 → c' i j = if i = u ∧ j = v then c u v + 1 else c i j) :
  ZbJ (n :: Zbb c f) (1 + u * 8 + v) [.int ((c u v : Int) + 1)] = n :: Zbb c' f := by
 have e : ZbJ (n :: Zbb c f) (1 + u * 8 + v) [.int ((c u v : Int) + 1)] = n :: ZbJ (Zbb c f) (u * 8 + v) [.int ((c u v : Int) + 1)] := by
  rw [ZbJ, ZbJ, show 1 + u * 8 + v = (u * 8 + v) + 1 by omega, List.take_succ_cons]
  simp only [List.length_cons, List.length_nil, Nat.zero_add, List.cons_append]
  rw [show u * 8 + v + 1 + 1 = (u * 8 + v + 1) + 1 from rfl, List.drop_succ_cons]
 rw [e]
 congr 1
 refine List.ext_getElem? fun k => ?_
 rw [ZiQ _ _ _ (by simp [ZiM]; omega)]
 simp only [List.length_cons, List.length_nil, Nat.zero_add]
 rcases Nat.lt_or_ge k 64 with hk | hk
 ·have hg : ∀ d : Nat → Nat → Nat, (Zbb d f)[k]? = some (.int (d (k / 8) (k % 8))) := fun d => by
   rw [Zbb, List.getElem?_append_left (by simp; omega), List.getElem?_map, List.getElem?_range hk]; rfl
  rw [hg, hg, h (k / 8) (k % 8) (by omega) (by omega)]
  by_cases hc : k = u * 8 + v
  ·subst hc
   rw [if_neg (by omega), if_pos (by omega), if_pos (by omega)]
   simp
  ·rw [if_neg (show ¬ (k / 8 = u ∧ k % 8 = v) by omega)]
   split
   ·rfl
   ·rw [if_neg (by omega)]
 ·rw [if_neg (by omega), if_neg (by omega)]
  have hg : ∀ d : Nat → Nat → Nat, (Zbb d f)[k]? = [f][k - 64]? := fun d => by
   rw [Zbb, List.getElem?_append_right (by simp; omega)]; simp
  rw [hg, hg]
theorem ZrF (n : PV) (c : Nat → Nat → Nat) (f f' : PV) : ZbJ (n :: Zbb c f) 65 [f'] = n :: Zbb c f' := by
 have h : (List.map (fun i => PV.int (c (i / 8) (i % 8))) (List.range 64)).length = 64 := by simp
 rw [ZbJ, Zbb, show 65 = 64 + 1 from rfl, List.take_succ_cons, List.take_left' h]
 simp only [List.length_cons, List.length_nil, Nat.zero_add]
 rw [List.drop_eq_nil_of_le (by simp)]
 simp [Zbb]
theorem Zp3 (l : List NA) (a : NA) (u v : Nat) : cnt (l ++ [a]) u v = cnt l u v + ind a u v := by
 have := Go.Cy.cnt_cons a [] u v
 simp only [cnt, List.filter_append, List.length_append, List.filter_nil, List.length_nil] at this ⊢
 omega
theorem Zpj (l : List NA) (u v : Nat) : cnt l u v ≤ l.length := List.length_filter_le _ _
theorem Zq1 {fm : List Nat} {v u f : Nat} (h : fm[v]? = some f) : (fm.map Zay).set v (.int ((f ||| 2 ^ u : Nat) : Int)) = (ZbM fm v u).map Zay := by
 rw [ZbM, List.map_set, atN, h]; rfl
theorem Zkj (l : List Nat) : ∀ d, d ∈ l.map Zay → d.cells.length = 1 := ZeQ Zay 1 (fun _ => rfl) l
theorem ZeE (x : Int) : ∀ d, d ∈ [D.int x] → d.cells.length = 1 := by intro d hd; rw [List.mem_singleton] at hd; subst hd; rfl
def ZgQ (g : Gr) : List Nat × Int := if gOk g then (if 8 < g.1 then ([], 2) else (Zdt g.1.toNat (g.2.map fun a => (a.1.toNat, a.2.toNat)), 0)) else ([], 1)
theorem Zwm (n : Nat) (l : List NA) (h : gOk ((n : Int), castA l) = true) (hi : InN n l) (hll : l.length ≤ 256) (h8 : n ≤ 8) : Zaa Tryz.prog 156 [gD ((n : Int), castA l)] (.tup [Zcn (Zdt n l), .int 0]) := by
 have hv : Zaa Tryz.prog 97 [gD ((n : Int), castA l)] (.bool true) := h ▸ Ze5 _
 have hcl := castA_len l
 refine kE Tryz.func156 ?_
 intro hat B X w0
 refine kw1 (kc1 hcl) (kc1 hv) ?_
 refine Zaf (κ := Nat) (fun (k : Nat) => k ≤ l.length) (fun (k : Nat) => [(1, .ptr 1 0 0 0), (4, .ptr 26 0 0 0), (28, .d (Zak (castA l))), (29, .int l.length), (30, .int k)]) (fun (k : Nat) => [(1, .cells [.int n, .d (Zak (castA l))]), (26, .cells (.int n :: Zbb (cnt (l.take k)) (.ref 24 1 0 n n))), (24, .row 1 ((List.replicate n 0).map Zay))]) (fun (k : Nat) => l.length - k) 0 ?_ ?_ ?_
 ·exact Nat.zero_le _
 ·exact kN (kc1 @List.map_replicate.{0,0}) []
 ·intro k hk
  rcases Nat.lt_or_ge k l.length with hlt | hge
  ·obtain ⟨a, ha⟩ := Zad hlt
   have hp := castA_get ha
   have hin := hi a (List.mem_of_getElem? ha)
   have htk : l.take (k + 1) = l.take k ++ [a] := ZaE ha
   by_cases c : a.1 = a.2
   ·have e : cnt (l.take (k + 1)) = cnt (l.take k) := by
     funext u v
     rw [htk, Zp3, ind, if_neg (fun h => h.1 c)]; rfl
    have c' : (a.1 : Int) = a.2 := by omega
    refine kw1 (kc3 hp hcl @c') kc0 ?_
    refine ⟨k + 1, ?_, kN (kc1 e) [], ?_⟩
    ·omega
    ·omega
   ·have c' : ¬ (a.1 : Int) = a.2 := by omega
    obtain ⟨q, hq⟩ := Zro (.int n) (cnt (l.take k)) (.ref 24 1 0 n n) (show a.1 < 8 by omega) (show a.2 < 8 by omega)
    have hle := Zpj (l.take k) a.1 a.2
    rw [List.length_take] at hle
    have hw := ZkS (x := (cnt (l.take k) a.1 a.2 : Int) + 1) (by omega) (by omega)
    have hs := Zxx (.int n) (cnt (l.take k)) (cnt (l.take (k + 1))) (.ref 24 1 0 n n) (show a.1 < 8 by omega) (show a.2 < 8 by omega) (fun i j _ _ => by
     rw [htk, Zp3, ind]
     by_cases c2 : i = a.1 ∧ j = a.2
     ·rw [if_pos c2, if_pos ⟨c, c2.1.symm, c2.2.symm⟩, c2.1, c2.2]
     ·rw [if_neg c2, if_neg (fun h => c2 ⟨h.2.1.symm, h.2.2.symm⟩)]; rfl)
    have hxl : (PV.int n :: Zbb (cnt (l.take k)) (.ref 24 1 0 n n)).length = 66 := by rw [List.length_cons, ZiM]
    refine kw1 (kc7 hp hcl @c' hq hw hs @ZiM) kc0 ?_
    refine ⟨k + 1, ?_, kN kc0 [], ?_⟩
    ·omega
    ·omega
  ·have hk : k = l.length := by omega
   subst hk
   rw [List.take_length]
   have hrn : (List.replicate n 0).length = n := List.length_replicate
   have hc256 : ∀ u v, cnt l u v ≤ 256 := fun u v => Nat.le_trans (Zpj l u v) hll
   have hdec := Go.Cy.dec_all h8 hi (by omega : l.length < 1048576)
   have hl0 := ZrB n (cnt l) (List.replicate n 0) h8 hc256 hrn (fun v => by rw [Go.Cy.atN_rep]; exact Go.Cy.pow_pos' n)
   refine kw1 (kc3 hcl @ZlU @List.flatMap_cons.{0,0}) (kc1 (kmc [(1000, 26), (1001, 24)] hl0)) ?_
   refine kR kc0 [(900, 24)] [(1, .ptr 1 0 0 0), (4, .ptr 26 0 0 0), (7, .int (Zbv n l)), (8, .nilS), (58, .d (Zak (castA l))), (59, .int l.length), (60, .int (0 : Nat))] [(1, .cells [.int n, .d (Zak (castA l))]), (26, .cells (.int n :: Zbb (cnt l) (.ref 900 1 0 n n))), (900, .row 1 ((List.replicate n 0).map Zay))] ?_
   refine Zax _ (Zd3 8 901 1 rfl rfl) ?_
   refine Zaf (κ := Nat) (fun (k : Nat) => k ≤ l.length) (fun (k : Nat) => [(1, .ptr 1 0 0 0), (4, .ptr 26 0 0 0), (7, .int (Zbv n l)), (8, .ref 901 1 0 (Zcp n (cnt l) (Zbv n l) l k).2.length (Zcp n (cnt l) (Zbv n l) l k).2.length), (58, .d (Zak (castA l))), (59, .int l.length), (60, .int k)]) (fun (k : Nat) => [(1, .cells [.int n, .d (Zak (castA l))]), (26, .cells (.int n :: Zbb (cnt l) (.ref 900 1 0 n n))), (900, .row 1 ((Zcp n (cnt l) (Zbv n l) l k).1.map Zay)), (901, .row 1 ((Zcp n (cnt l) (Zbv n l) l k).2.map Zay))]) (fun (k : Nat) => l.length - k) 0 ?_ ?_ ?_
   ·exact Nat.zero_le _
   ·exact kN kc0 []
   ·intro k hk
    rcases Nat.lt_or_ge k l.length with hlt | hge
    ·obtain ⟨a, ha⟩ := Zad hlt
     have hp := castA_get ha
     have hin := hi a (List.mem_of_getElem? ha)
     have hD := hdec k hk
     have hDs : Zcp n (cnt l) (Zbv n l) l (k + 1) = Ze0 n (cnt l) (Zbv n l) k a (Zcp n (cnt l) (Zbv n l) l k) := by rw [Zcp, ha]
     revert hD hDs
     generalize Zcp n (cnt l) (Zbv n l) l k = st
     obtain ⟨fm, Dk⟩ := st
     intro hD hDs
     dsimp only at hD ⊢
     have hfl := hD.len
     have hDl : Dk.length ≤ k := Go.Cy.nd_le (hD.asc.imp fun h => Nat.ne_of_lt h) hD.below
     by_cases c : a.1 = a.2
     ·rw [Ze0, if_pos c] at hDs
      have c' : (a.1 : Int) = a.2 := by omega
      refine kw1 (kc3 hp hcl @c') kc0 ?_
      refine ⟨k + 1, ?_, kN (kc1 hDs) [], ?_⟩
      ·omega
      ·omega
     ·have c' : ¬ (a.1 : Int) = a.2 := by omega
      rw [Ze0, if_neg c] at hDs
      have hv1 : a.1 < fm.length := by omega
      have hv2 : a.2 < fm.length := by omega
      obtain ⟨f1, hf1⟩ := Zad hv1
      obtain ⟨f2, hf2⟩ := Zad hv2
      have hx1 := ZkP (cnt l) (.ref 900 1 0 n n)
      have hx2 := ZkP (cnt l) (.ref 77 1 0 n n)
      have hs1 := ZrF (.int n) (cnt l) (.ref 900 1 0 n n) (.ref 77 1 0 n n)
      have hs2 := ZrF (.int n) (cnt l) (.ref 77 1 0 n n) (.ref 900 1 0 n n)
      have hmf : (fm.map Zay).length = n := by rw [List.length_map, hfl]
      have hmt : (fm.map Zay).take n = fm.map Zay := List.take_of_length_le (by omega)
      have hfa1 : atN fm a.1 = f1 := by rw [atN, hf1]; rfl
      have hfa2 : atN fm a.2 = f2 := by rw [atN, hf2]; rfl
      have hb1 := Nat.lt_of_lt_of_le (hfa1 ▸ hD.lt a.1) (Go.Cy.pow_le8 h8)
      have hb2 := Nat.lt_of_lt_of_le (hfa2 ▸ hD.lt a.2) (Go.Cy.pow_le8 h8)
      have hq1 := Zq1 (u := a.2) hf1
      have hq2 := Zq1 (u := a.1) hf2
      obtain ⟨p1, hp1⟩ : ∃ p, p = 2 ^ a.1 := ⟨_, rfl⟩
      obtain ⟨p2, hp2⟩ : ∃ p, p = 2 ^ a.2 := ⟨_, rfl⟩
      have hb3 : p1 < 256 := by rw [hp1]; exact Nat.pow_lt_pow_right (n := 8) (by decide) (by omega)
      have hb4 : p2 < 256 := by rw [hp2]; exact Nat.pow_lt_pow_right (n := 8) (by decide) (by omega)
      have e1 := Zjc a.1 (by omega)
      have e2 := Zjc a.2 (by omega)
      rw [← hp1] at e1 hq2
      rw [← hp2] at e2 hq1
      have o1 := ZrI (a := f1) (b := p2) (by omega) (by omega)
      have o2 := ZrI (a := f2) (b := p1) (by omega) (by omega)
      have hl1 := ZrB n (cnt l) (ZbM fm a.1 a.2) h8 hc256 (by rw [ZbM, List.length_set, hfl]) (Go.Cy.orAt_lt hv1 hin.2 hD.lt)
      by_cases c2 : ZdP n (cnt l) (ZbM fm a.1 a.2) = Zbv n l
      ·rw [if_pos c2] at hDs
       have c2' : ((ZdP n (cnt l) (ZbM fm a.1 a.2) : Nat) : Int) = Zbv n l := by rw [c2]
       repeat' first | refine ZaK rfl ?_ | refine ZaG ?_ | refine wR ?_ | refine rcM [(1000, 26), (1001, 77)] (hl1) rfl ?_ | (refine ZaN rfl rfl (fun hc => ?_) (fun hc => ?_) <;> try simp only [hcL] at hc) | (refine ZaM _ rfl rfl (fun hc => ?_) (fun hc => ?_) <;> (try simp only [hcL] at hc) <;> try omega) | simp (disch := omega) only [go_sem, simprocAttr, hp, hcl, c', hx1, hx2, hs1, ZiM, hmf, hmt, List.length_replicate, hfl, hf1, e2, o1, hq1, ZlU, List.flatMap_cons, c2', Zan, Zau] | (first | exact Zkj fm | exact ZeE _) | apply And.intro | omega | decide +kernel
       refine ⟨k + 1, ?_, eL [(900, 77), (901, 106)] _ _ (by refine ⟨?_, ?_⟩ <;> (repeat' first | exact fmn | refine fmc ⟨(by first | rfl | (simp (disch := omega) only [go_sem, simprocAttr, inL, hDs, List.length_append, List.length_singleton, List.map_append, List.map_cons, List.map_nil, Ob.ren, Zli, List.map_cons]; first | done | omega | (congr 1; done))), ?_⟩); done), ?_⟩
       ·omega
       ·omega
      ·rw [if_neg c2] at hDs
       have c2' : ¬ ((ZdP n (cnt l) (ZbM fm a.1 a.2) : Nat) : Int) = Zbv n l := by omega
       repeat' first | refine ZaK rfl ?_ | refine ZaG ?_ | refine wR ?_ | refine rcM [(1000, 26), (1001, 77)] (hl1) rfl ?_ | (refine ZaN rfl rfl (fun hc => ?_) (fun hc => ?_) <;> try simp only [hcL] at hc) | (refine ZaM _ rfl rfl (fun hc => ?_) (fun hc => ?_) <;> (try simp only [hcL] at hc) <;> try omega) | simp (disch := omega) only [go_sem, simprocAttr, hp, hcl, c', hx1, hx2, hs1, hs2, ZiM, hmf, hmt, List.length_replicate, hfl, hf1, hf2, e1, e2, o1, o2, hq1, hq2, ZlU, Zli, List.flatMap_cons, c2'] | exact Zkj fm | apply And.intro | omega | decide +kernel
       refine ⟨k + 1, ?_, eL [] _ _ (by refine ⟨?_, ?_⟩ <;> (repeat' first | exact fmn | refine fmc ⟨(by first | rfl | (simp (disch := omega) only [go_sem, simprocAttr, inL, hDs, Ob.ren, Zli, List.map_cons]; first | done | omega | (congr 1; done))), ?_⟩); done), ?_⟩
       ·omega
       ·omega
    ·have hk : k = l.length := by omega
     subst hk
     refine kw1 kc0 kc0 ?_
     exact ⟨_, rfl, Zdn (o := 901) rfl rfl (by simp) (by rw [List.take_of_length_le (by simp)]; rfl), Zag rfl, trivial⟩
end Go.Proofs.YtjjbhjnpeenbkaaGreatDoor.Cyc
namespace Go.Proofs.YtjjbhjnpeenbkaaGreatDoor.Cyc
open Go Go.PS Go.Proofs
open Go.Hp (ZjT upN ZmP kid Zog Zqg Zn9 ZlX)
set_option maxRecDepth 100000
attribute [local irreducible] Zab wpG Zaa Zai

end Go.Proofs.YtjjbhjnpeenbkaaGreatDoor.Cyc
namespace Go.Proofs.YtjjbhjnpeenbkaaGreatDoor.Cyc
open Go Go.PS Go.Proofs
open Go.Cy (NA InN Zlq)
set_option maxRecDepth 100000
attribute [local irreducible] Zab wpG Zaa Zai

end Go.Proofs.YtjjbhjnpeenbkaaGreatDoor.Cyc
namespace Go.Proofs.YtjjbhjnpeenbkaaGreatDoor.Cyc
open Go Go.PS Go.Proofs
open Go.Cy (NA InN Zlq Acy inC hds Kahn KahnI)
open Go.Hp (Zog Zqg Zn9)
set_option maxRecDepth 100000
attribute [local irreducible] Zab wpG Zaa Zai

end Go.Proofs.YtjjbhjnpeenbkaaGreatDoor.Cyc
namespace Go.Proofs.YtjjbhjnpeenbkaaGreatDoor.Cyc
open Go Go.PS Go.Proofs
open Go.Cy (NA InN Zlq Acy ZhD Brk Zcw Asc)
set_option maxRecDepth 100000
attribute [local irreducible] Zab wpG Zaa Zai

abbrev Zfw (s : List Nat) : List Int := s.map fun x : Nat => (x : Int)
theorem ZrU {s : List Nat} {i x : Nat} (h : s[i]? = some x) : (Zfw s)[i]? = some (x : Int) := by simp [h]
theorem Zxe (s : List Nat) : Zac (Zfw s) = Zcn s := by simp [Zac, Zcn, Function.comp]
theorem ZuE (l : List NA) (t : List Nat) : Zex (castA l) (Zfw t) = castA (Zcw l t) := by
 refine List.ext_getElem? fun k => ?_
 rcases Nat.lt_or_ge k l.length with h | h
 ·obtain ⟨a, ha⟩ := Zad h
  rw [Zi6 (castA_get ha), castA_get (Go.Cy.flipN_get ha)]
  have : ZdZ (Zfw t) (k : Int) = decide (k ∈ t) := by
   rw [Bool.eq_iff_iff]
   simp only [ZdZ, List.any_eq_true, decide_eq_true_eq, List.mem_map]
   constructor
   ·rintro ⟨x, ⟨y, hy, rfl⟩, h2⟩
    have : y = k := by omega
    exact this ▸ hy
   ·intro hk; exact ⟨_, ⟨k, hk, rfl⟩, rfl⟩
  rw [this]
  by_cases c : k ∈ t
  ·simp [c, ZjI]
  ·simp [c]
 ·rw [List.getElem?_eq_none (by rw [ZgU, castA_len]; exact h), List.getElem?_eq_none (by rw [castA_len, Go.Cy.flipN_len]; exact h)]
theorem ZuD {l : List NA} {t : List Nat} (h : ZhD l t) : ZfD (Zfw t) l.length = 0 := by
 have key : ∀ k, k ≤ t.length → Zdz (Zgq (Zfw t) l.length) k = 0 := by
  intro k
  induction k with
  | zero => intro _; rfl
  | succ k ih =>
   intro hk
   refine ZoC (ih (by omega)) ?_
   obtain ⟨x, hx⟩ := Zad (show k < t.length by omega)
   obtain ⟨a, ha, hn⟩ := h.2 x (List.mem_of_getElem? hx)
   have hxl := (List.getElem?_eq_some_iff.1 ha).1
   simp only [Zgq, ZrU hx]
   rw [if_neg (by omega), if_neg]
   simp only [ZdZ, List.any_eq_true, decide_eq_true_eq, not_exists, not_and]
   rintro y hy rfl
   rw [Zfw, ← List.map_take] at hy
   obtain ⟨z, hz, he⟩ := List.mem_map.1 hy
   obtain ⟨i, hi⟩ := List.mem_iff_getElem?.1 hz
   rw [List.getElem?_take] at hi
   split at hi
   ·rename_i hik
    have hi2 := List.getElem?_eq_some_iff.1 hi
    have hx2 := List.getElem?_eq_some_iff.1 hx
    have := (List.pairwise_iff_getElem.1 h.1) i k hi2.1 hx2.1 hik
    rw [hi2.2, hx2.2] at this; omega
   ·cases hi
 have := key t.length (Nat.le_refl _)
 rw [ZfD, List.length_map]; exact this
end Go.Proofs.YtjjbhjnpeenbkaaGreatDoor.Cyc
namespace Go.Proofs.YtjjbhjnpeenbkaaGreatDoor.Cyc
open Go Go.PS Go.Proofs
open Go.Cy (NA InN cnt Ze0 Zcp Zbv Zdt Zcw ZhD Asc)
set_option maxRecDepth 100000
attribute [local irreducible] Zab wpG Zaa Zai

theorem ZpG (n : Nat) (c : Nat → Nat → Nat) (z : Nat) (l : List NA) : ∀ k, k ≤ l.length → Asc (Zcp n c z l k).2 ∧ ∀ i, i ∈ (Zcp n c z l k).2 → i < k ∧ ∃ a, l[i]? = some a ∧ a.1 ≠ a.2 := by
 intro k
 induction k with
 | zero => intro _; exact ⟨List.Pairwise.nil, fun i hi => by cases hi⟩
 | succ k ih =>
  intro hk
  obtain ⟨h1, h2⟩ := ih (by omega)
  obtain ⟨a, ha⟩ := Zad (show k < l.length by omega)
  rw [Zcp, ha]
  dsimp only
  rw [Ze0]
  have h3 : ∀ i, i ∈ (Zcp n c z l k).2 → i < k + 1 ∧ ∃ a, l[i]? = some a ∧ a.1 ≠ a.2 := fun i hi => ⟨by have := (h2 i hi).1; omega, (h2 i hi).2⟩
  by_cases e : a.1 = a.2
  ·rw [if_pos e]; exact ⟨h1, h3⟩
  ·rw [if_neg e]
   split
   ·refine ⟨?_, fun i hi => ?_⟩
    ·refine List.pairwise_append.2 ⟨h1, List.pairwise_singleton _ _, fun x hx y hy => ?_⟩
     rw [List.mem_singleton] at hy
     have := (h2 x hx).1
     omega
    ·rcases List.mem_append.1 hi with hi | hi
     ·exact h3 i hi
     ·rw [List.mem_singleton] at hi; subst hi; exact ⟨by omega, a, ha, e⟩
   ·exact ⟨h1, h3⟩
theorem Zuc (n : Nat) (l : List NA) : ZhD l (Zdt n l) :=
 ⟨(ZpG n (cnt l) (Zbv n l) l l.length (Nat.le_refl _)).1, fun i hi => ((ZpG n (cnt l) (Zbv n l) l l.length (Nat.le_refl _)).2 i hi).2⟩
theorem ZsB {n : Nat} {l : List NA} {t : List Nat} (h : gOk ((n : Int), castA l) = true) (ht : ZhD l t) : Zaa Tryz.prog 158 [gD ((n : Int), castA l), Zcn t] (.tup [gD ((n : Int), castA (Zcw l t)), .int 0]) := by
 have hF := Zwl ((n : Int), castA l) (Zfw t)
 have eF : ZeK ((n : Int), castA l) (Zfw t) = (((n : Int), castA (Zcw l t)), 0) := by
  have h2 := ZuD ht
  rw [ZeK, if_pos h]
  simp only [castA_len, h2, if_true, ZuE]
 rw [eF, Zxe] at hF
 exact hF
theorem Break8 (n : Nat) (l : List NA) (h : gOk ((n : Int), castA l) = true) (hi : InN n l) (hll : l.length ≤ 256) (h8 : n ≤ 8) : Zaa Tryz.prog 94 [gD ((n : Int), castA l)] (.tup [Zcn (Zdt n l), gD ((n : Int), castA (Zcw l (Zdt n l)))]) := by
 have hF := ZsB h (Zuc n l)
 have hl := Zwm n l h hi hll h8
 refine kE Tryz.func94 ?_
 intro hat B X w0
 refine kw1 kc0 (kc2 hl hF) ?_
 refine ⟨_, rfl, ?_, ⟨_, _, _, _, rfl, ?_⟩, trivial⟩
 ·rfl
 ·simp (disch := omega) only [go_sem, simprocAttr]
end Go.Proofs.YtjjbhjnpeenbkaaGreatDoor.Cyc
namespace Go.Proofs.YtjjbhjnpeenbkaaGreatDoor.Gr
open Go Go.PS Go.Proofs Go.Proofs.YtjjbhjnpeenbkaaGreatDoor
set_option maxRecDepth 100000
attribute [local irreducible] Zab wpG Zaa Zai

structure Opt where
 md : Int
 nsep : Int
 rsep : Int
 mg : Int
 rd : Int
abbrev Zfh (o : Opt) : D := .ag [.int o.md, .int o.nsep, .int o.rsep, .int o.mg, .int o.rd]
def ZfO (m x : Int) : Bool := decide (0 ≤ x) && decide (x ≤ m)
def okO (o : Opt) : Bool := ZfO 4 o.md && (ZfO 1048576 o.nsep && (ZfO 1048576 o.rsep && (ZfO 1048576 o.mg && (ZfO 100 o.rd))))
theorem Zil (m x : Int) (hm : 0 ≤ m) : decide (x = if m < (if x < 0 then 0 else x) then m else (if x < 0 then 0 else x)) = ZfO m x := by
 rw [Bool.eq_iff_iff]
 simp only [ZfO, decide_eq_true_eq, Bool.and_eq_true]
 split <;> split <;> omega
theorem Zk9 (o : Opt) : Zaa Tryz.prog 46 [Zfh o] (.bool (okO o)) := by
 have e1 := Zil 4 o.md (by decide)
 have e2 := Zil 1048576 o.nsep (by decide)
 have e3 := Zil 1048576 o.rsep (by decide)
 have e4 := Zil 1048576 o.mg (by decide)
 have e5 := Zil 100 o.rd (by decide)
 refine kE Tryz.func46 ?_
 intro hat B X w0
 refine kw1 (kc5 e1 e2 e3 e4 e5) kc0 ?_
 exact Zaj (by simp only [okO, Bool.and_true])
def Zhg (g : Gph) : Gr := ((g.ns.length : Int), g.es.map fun e => (e.fr, e.to))
def ZdJ (g : Gph) (k : Nat) : List Arc := (g.es.take k).map fun e => (e.fr, e.to)
theorem Zwq {g : Gph} {k : Nat} {e : Ed} (h : g.es[k]? = some e) : ZdJ g (k + 1) = ZdJ g k ++ [(e.fr, e.to)] := by
 rw [ZdJ, ZdJ, ZaE h, List.map_append]; rfl
theorem ZvL (g : Gph) : ZdJ g g.es.length = (Zhg g).2 := by rw [ZdJ, List.take_length, Zhg]
theorem Zyb (g : Gph) {k : Nat} (h : k ≤ g.es.length) : (ZdJ g k).length = k := by rw [ZdJ, List.length_map, List.length_take]; omega
theorem Zui (g : Gph) (hl : g.es.length ≤ 1000000) : Zaa Tryz.prog 95 [ZbX g] (gD (Zhg g)) := by
 refine kE Tryz.func95 ?_
 intro hat B X w0
 refine kw1 kc0 kc0 ?_
 refine Zax _ (ZcF 3 1 901 2 rfl rfl rfl) ?_
 refine Zaf (κ := Nat) (fun (k : Nat) => k ≤ g.es.length) (fun (k : Nat) => [(2, .ptr 2 0 0 0), (3, .ptr 3 0 0 0), (11, .d (.sl (g.es.map edD))), (12, .int g.es.length), (13, .int k)]) (fun (k : Nat) => [(2, .cells [.int 0, .nilS]), (3, .cells [.int g.ns.length, .ref 901 2 0 (ZdJ g k).length (ZdJ g k).length]), (901, .row 2 ((ZdJ g k).map ZaZ))]) (fun (k : Nat) => g.es.length - k) 0 ?_ ?_ ?_
 ·exact Nat.zero_le _
 ·exact kN kc0 []
 ·intro k hk
  have hln := Zyb g hk
  rcases Nat.lt_or_ge k g.es.length with hlt | hge
  ·obtain ⟨e, he⟩ := Zad hlt
   have hs := Zwq he
   have htk : ((ZdJ g k).map ZaZ).take k = (ZdJ g k).map ZaZ := List.take_of_length_le (by simp [hln])
   refine kw1 (kc3 he htk hln) kc0 ?_
   refine ⟨k + 1, ?_, kN (kc7 hs @List.length_append.{0} @List.length_singleton.{0} @List.map_append.{0,0} @List.map_cons.{0,0} @List.map_nil.{0,0} hln) [(901, 25)], ?_⟩
   ·exact hlt
   ·omega
  ·obtain rfl : k = g.es.length := by omega
   refine kw1 kc0 kc0 ?_
   refine ⟨_, _, _, _, rfl, ?_⟩
   simp (disch := omega) only [go_sem, simprocAttr]
   rw [ZvL, Zau]
   rfl
end Go.Proofs.YtjjbhjnpeenbkaaGreatDoor.Gr
namespace Go.Proofs.YtjjbhjnpeenbkaaGreatDoor.Gr
open Go Go.PS Go.Proofs Go.Proofs.YtjjbhjnpeenbkaaGreatDoor
open Go.Cy (NA InN Zdt Zcw)
set_option maxRecDepth 100000
attribute [local irreducible] Zab wpG Zaa Zai

def naF (g : Gph) : List NA := g.es.map fun e => (e.fr.toNat, e.to.toNat)
def ZbL (g : Gph) : List NA := Zcw (naF g) (Zdt g.ns.length (naF g))
theorem ZhC (g : Gph) : (ZbL g).length = g.es.length := by rw [ZbL, Go.Cy.flipN_len, naF, List.length_map]
structure ZbK (g : Gph) : Prop where
 md : Mod g
 ok : Zdq g = 0
 n8 : g.ns.length ≤ 8
theorem Zgo {g : Gph} (h : Zdq g = 0) : g.es.length ≤ 256 ∧ fe (Zf6 g) g.ns.length = 0 ∧ fe (Zg0 g) g.es.length = 0 := by
 rw [Zdq] at h
 split at h
 ·cases h
 ·split at h
  ·cases h
  ·split at h
   ·contradiction
   ·rename_i h1
    split at h
    ·contradiction
    ·exact ⟨by omega, by omega, h⟩
theorem Zl7 {g : Gph} (h : Zdq g = 0) {k : Nat} {e : Ed} (he : g.es[k]? = some e) : 0 ≤ e.fr ∧ e.fr < g.ns.length ∧ 0 ≤ e.to ∧ e.to < g.ns.length ∧ 1 ≤ e.wt ∧ e.wt ≤ 1000 ∧ 1 ≤ e.ln ∧ e.ln ≤ 64 := by
 have h1 := ZnH (Zgo h).2.2 k (List.getElem?_eq_some_iff.1 he).1
 rw [Zg0, he] at h1
 dsimp only at h1
 rw [ZhS] at h1
 split at h1
 ·cases h1
 ·split at h1
  ·contradiction
  ·split at h1
   ·cases h1
   ·omega
theorem ZyE {g : Gph} (h : Zdq g = 0) : Zhg g = ((g.ns.length : Int), Cyc.castA (naF g)) := by
 rw [Zhg, Cyc.castA, naF, List.map_map]
 congr 1
 refine List.map_congr_left fun e he => ?_
 obtain ⟨k, hk⟩ := List.mem_iff_getElem?.1 he
 obtain ⟨h1, _, h2, _⟩ := Zl7 h hk
 simp only [Function.comp]
 rw [show ((e.fr.toNat : Nat) : Int) = e.fr by omega, show ((e.to.toNat : Nat) : Int) = e.to by omega]
theorem Zk6 {g : Gph} (h : Zdq g = 0) : InN g.ns.length (naF g) := by
 intro a ha
 obtain ⟨e, he, rfl⟩ := List.mem_map.1 ha
 obtain ⟨k, hk⟩ := List.mem_iff_getElem?.1 he
 obtain ⟨h1, h2, h3, h4, _⟩ := Zl7 h hk
 dsimp only; omega
theorem Zub {g : Gph} (hs : ZbK g) : Cyc.gOk ((g.ns.length : Int), Cyc.castA (naF g)) = true := by
 have h1 := (Zgo hs.ok).1
 have h2 := hs.n8
 simp only [Cyc.gOk, Bool.and_eq_true, decide_eq_true_eq, Bool.not_eq_true', List.any_eq_false]
 refine ⟨⟨by omega, by omega, by rw [Cyc.castA_len, naF, List.length_map]; omega⟩, ?_⟩
 intro a ha
 obtain ⟨b, hb, rfl⟩ := List.mem_map.1 ha
 have := Zk6 hs.ok b hb
 simp [Cyc.arcIn]; omega
theorem Zsa {g : Gph} (h : Zdq g = 0) : InN g.ns.length (ZbL g) := by
 intro a ha
 obtain ⟨k, b, hk, rfl⟩ := Go.Cy.flipN_mem ha
 have := Zk6 h b (List.mem_of_getElem? hk)
 split
 ·dsimp only; omega
 ·exact this
theorem ZwU {g : Gph} (hs : ZbK g) : ∃ s : D, Zaa Tryz.prog 94 [gD (Zhg g)] (.tup [s, gD ((g.ns.length : Int), Cyc.castA (ZbL g))]) := by
 have h := Cyc.Break8 g.ns.length (naF g) (Zub hs) (Zk6 hs.ok) (by rw [naF, List.length_map]; exact (Zgo hs.ok).1) hs.n8
 rw [ZyE hs.ok]
 exact ⟨_, h⟩
def Ze8 (l : List NA) (i : Nat) : Bool := match l[i]? with
 | some a => decide (a.1 ≠ a.2)
 | none => false
def ksF (l : List NA) (k : Nat) : List Nat := (List.range k).filter (Ze8 l)
def Ziq (l : List NA) (i : Nat) : Arc := match l[i]? with
 | some a => ((a.1 : Int), (a.2 : Int))
 | none => (0, 0)
def Zbr (l : List NA) (k : Nat) : List Arc := (ksF l k).map (Ziq l)
def Zbs (l : List NA) (k : Nat) : List Int := (ksF l k).map fun (i : Nat) => (i : Int)
theorem Zjl {l : List NA} {k : Nat} : ksF l (k + 1) = ksF l k ++ if Ze8 l k then [k] else [] := by
 rw [ksF, ksF, List.range_succ, List.filter_append]
 cases h : Ze8 l k <;> simp [h]
theorem Zg7 (l : List NA) (k : Nat) : (ksF l k).length ≤ k := by
 have := List.length_filter_le (Ze8 l) (List.range k)
 rw [List.length_range] at this; exact this
theorem ZjG {l : List NA} {k i : Nat} (h : i ∈ ksF l k) : i < k ∧ Ze8 l i = true := by
 rw [ksF, List.mem_filter, List.mem_range] at h; exact h
abbrev ZkV (n : Nat) (l : List NA) : D := .ag [.int n, Zak (Zbr l l.length), Zac (Zbs l l.length)]
theorem Zmf {g : Gph} (hs : ZbK g) : Zaa Tryz.prog 47 [ZbX g] (ZkV g.ns.length (ZbL g)) := by
 obtain ⟨h256, _, _⟩ := Zgo hs.ok
 have h1 := Zui g (by omega)
 obtain ⟨s, h2⟩ := ZwU hs
 have hbl := ZhC g
 generalize ZbL g = l at *
 have hcl : (Cyc.castA l).length = l.length := Cyc.castA_len l
 refine kE Tryz.func47 ?_
 intro hat B X w0
 refine kw1 (kc1 hcl) (kc2 h1 h2) ?_
 refine Zax _ (ZcF 5 1 901 2 rfl rfl rfl) ?_
 refine Zax _ (ZcF 5 2 902 1 rfl rfl rfl) ?_
 refine Zaf (κ := Nat) (fun (k : Nat) => k ≤ l.length) (fun (k : Nat) => [(2, .ptr 2 0 0 0), (5, .ptr 5 0 0 0), (20, .d (Zak (Cyc.castA l))), (21, .int l.length), (22, .int k)]) (fun (k : Nat) => [(2, .cells [.int 0, .nilS, .nilS]), (5, .cells [.int g.ns.length, .ref 901 2 0 (Zbr l k).length (Zbr l k).length, .ref 902 1 0 (Zbs l k).length (Zbs l k).length]), (901, .row 2 ((Zbr l k).map ZaZ)), (902, .row 1 ((Zbs l k).map D.int))]) (fun (k : Nat) => l.length - k) 0 ?_ ?_ ?_
 ·exact Nat.zero_le _
 ·exact kN (kc7 @Zbr.eq_1 @Zbs.eq_1 @ksF.eq_1 @List.range_zero @List.filter_nil.{0} @List.map_nil.{0,0} @List.length_nil.{0}) []
 ·intro k hk
  have hlk := Zg7 l k
  have hl1 : (Zbr l k).length ≤ 256 := by rw [Zbr, List.length_map]; omega
  have hl2 : (Zbs l k).length ≤ 256 := by rw [Zbs, List.length_map]; omega
  rcases Nat.lt_or_ge k l.length with hlt | hge
  ·obtain ⟨a, ha⟩ := Zad hlt
   have hp : (Cyc.castA l)[k]? = some ((a.1 : Int), (a.2 : Int)) := Cyc.castA_get ha
   by_cases c : a.1 = a.2
   ·have c' : (a.1 : Int) = a.2 := by omega
    have hn : Ze8 l k = false := by rw [Ze8, ha]; simp [c]
    have e1 : Zbr l (k + 1) = Zbr l k := by rw [Zbr, Zbr, Zjl, hn]; simp
    have e2 : Zbs l (k + 1) = Zbs l k := by rw [Zbs, Zbs, Zjl, hn]; simp
    refine kw1 (kc3 hp hcl @c') kc0 ?_
    refine ⟨k + 1, ?_, kN (kc2 e1 e2) [], ?_⟩
    ·exact hlt
    ·omega
   ·have c' : ¬ (a.1 : Int) = a.2 := by omega
    have hn : Ze8 l k = true := by rw [Ze8, ha]; simp [c]
    have e1 : Zbr l (k + 1) = Zbr l k ++ [((a.1 : Int), (a.2 : Int))] := by rw [Zbr, Zbr, Zjl, hn]; simp [Ziq, ha]
    have e2 : Zbs l (k + 1) = Zbs l k ++ [(k : Int)] := by rw [Zbs, Zbs, Zjl, hn]; simp
    refine kw1 (kc4 hp hcl @c' @Zau) kc0 ?_
    refine ⟨k + 1, ?_, kN (kc7 e1 e2 @List.length_append.{0} @List.length_singleton.{0} @List.map_append.{0,0} @List.map_cons.{0,0} @List.map_nil.{0,0}) [(901, 37), (902, 44)], ?_⟩
    ·exact hlt
    ·omega
  ·obtain rfl : k = l.length := by omega
   refine kw1 kc0 kc0 ?_
   refine ⟨_, _, _, _, rfl, ?_⟩
   simp (disch := omega) only [go_sem, simprocAttr]
   rw [Zau, Zau]
def Zkh (g : Gph) (l : List NA) (i : Nat) : Sx.Bd := match l[i]?, g.es[i]? with
 | some a, some e => ((a.1 : Int), (a.2 : Int), e.ln, e.wt)
 | _, _ => (0, 0, 0, 0)
def Zbo (g : Gph) (l : List NA) (k : Nat) : List Sx.Bd := ((ksF l l.length).take k).map (Zkh g l)
def Zb8 (g : Gph) : Sx.Net := ((g.ns.length : Int), Zbo g (ZbL g) (ksF (ZbL g) (ZbL g).length).length)
theorem Zhy {g : Gph} {l : List NA} {k : Nat} (h : k ≤ (ksF l l.length).length) : (Zbo g l k).length = k := by
 rw [Zbo, List.length_map, List.length_take]; omega
theorem Zn0 {g : Gph} (hs : ZbK g) {r f : List Int} (hS : Sx.SolveOk (Zb8 g) r f) : Zaa Tryz.prog 48 [ZkV g.ns.length (ZbL g), ZbX g] (.tup [Zac r, Zac f, .int 0]) := by
 obtain ⟨n', hn', hr', hf', hS⟩ := hS
 obtain ⟨h256, _, _⟩ := Zgo hs.ok
 have hbl := ZhC g
 simp only [Zb8] at hn' hf' hS
 generalize ZbL g = l at *
 have hlk := Zg7 l l.length
 have hlb := Zhy (g := g) (l := l) (Nat.le_refl _)
 rw [hlb] at hf' hS
 obtain rfl : n' = g.ns.length := by omega
 have hpl : (Zbr l l.length).length = (ksF l l.length).length := by rw [Zbr, List.length_map]
 have hel : (Zbs l l.length).length = (ksF l l.length).length := by rw [Zbs, List.length_map]
 refine kE Tryz.func48 ?_
 intro hat B X w0
 refine kw1 (kc1 hpl) kc0 ?_
 refine Zax _ (ZcF 7 1 901 4 rfl rfl rfl) ?_
 refine Zaf (κ := Nat) (fun (k : Nat) => k ≤ (ksF l l.length).length) (fun (k : Nat) => [(2, .ptr 2 0 0 0), (3, .ptr 3 0 0 0), (7, .ptr 7 0 0 0), (17, .d (Zak (Zbr l l.length))), (18, .int (ksF l l.length).length), (19, .int k)]) (fun (k : Nat) => [(2, .cells [.int g.ns.length, .d (Zak (Zbr l l.length)), .d (Zac (Zbs l l.length))]), (3, .cells [.d (Zbl g.nm), .d (.bool g.dir), .d (.sl (g.ns.map ndD)), .d (.sl (g.es.map edD)), .d (.sl (g.cs.map clD))]), (7, .cells [.int g.ns.length, .ref 901 4 0 (Zbo g l k).length (Zbo g l k).length]), (901, .row 4 ((Zbo g l k).map Sx.bdD))]) (fun (k : Nat) => (ksF l l.length).length - k) 0 ?_ ?_ ?_
 ·exact Nat.zero_le _
 ·exact kN (kc4 @Zbo.eq_1 @List.take_zero.{0} @List.map_nil.{0,0} @List.length_nil.{0}) []
 ·intro k hk
  have hl1 := Zhy (g := g) hk
  rcases Nat.lt_or_ge k (ksF l l.length).length with hlt | hge
  ·obtain ⟨i, hi⟩ := Zad hlt
   obtain ⟨q1, q2⟩ := ZjG (List.mem_of_getElem? hi)
   obtain ⟨a, ha⟩ := Zad q1
   obtain ⟨e, he⟩ := Zad (l := g.es) (k := i) (by omega)
   have p1 : (Zbr l l.length)[k]? = some ((a.1 : Int), (a.2 : Int)) := by rw [Zbr, List.getElem?_map, hi]; simp [Ziq, ha]
   have p2 : (Zbs l l.length)[k]? = some (i : Int) := by rw [Zbs, List.getElem?_map, hi]; rfl
   have e1 : Zbo g l (k + 1) = Zbo g l k ++ [((a.1 : Int), (a.2 : Int), e.ln, e.wt)] := by
    rw [Zbo, Zbo, ZaE hi, List.map_append]; simp [Zkh, ha, he]
   have htk : ((Zbo g l k).map Sx.bdD).take k = (Zbo g l k).map Sx.bdD := List.take_of_length_le (by simp [hl1])
   refine kw1 (kc7 p1 p2 he hpl hel hl1 htk) kc0 ?_
   refine ⟨k + 1, ?_, kN (kc7 e1 @List.length_append.{0} @List.length_singleton.{0} @List.map_append.{0,0} @List.map_cons.{0,0} @List.map_nil.{0,0} hl1) [(901, 45)], ?_⟩
   ·exact hlt
   ·omega
  ·obtain rfl : k = (ksF l l.length).length := by omega
   refine Zax _ (Zdk 901 4 ((Zbo g l (ksF l l.length).length).map Sx.bdD) rfl (ZcR _ rfl) (by decide)) ?_
   have htk0 : ((Zbo g l (ksF l l.length).length).map Sx.bdD).take (ksF l l.length).length = (Zbo g l (ksF l l.length).length).map Sx.bdD := List.take_of_length_le (by simp [hl1])
   refine kw1 (kc3 htk0 @List.drop_zero.{0} hl1) (kc1 (kmc [(2000, 950), (2001, 951)] hS)) ?_
   exact ⟨_, rfl, Zdn (o := 950) rfl rfl (by simp [Sx.intsL, hr']) (by rw [List.take_of_length_le (by simp [Sx.intsL, hr'])]), Zdn (o := 951) rfl rfl (by simp [Sx.intsL, hf']) (by rw [List.take_of_length_le (by simp [Sx.intsL, hf'])]), Zag rfl, trivial⟩
theorem Zv1 {g : Gph} (hs : ZbK g) {e : Int} (hS : Sx.SolveNo (Zb8 g) e) : Zaa Tryz.prog 48 [ZkV g.ns.length (ZbL g), ZbX g] (.tup [.sl [], .sl [], .int e]) := by
 unfold Sx.SolveNo at hS
 obtain ⟨h256, _, _⟩ := Zgo hs.ok
 have hbl := ZhC g
 simp only [Zb8] at hS
 generalize ZbL g = l at *
 have hlk := Zg7 l l.length
 have hlb := Zhy (g := g) (l := l) (Nat.le_refl _)
 have hpl : (Zbr l l.length).length = (ksF l l.length).length := by rw [Zbr, List.length_map]
 have hel : (Zbs l l.length).length = (ksF l l.length).length := by rw [Zbs, List.length_map]
 refine kE Tryz.func48 ?_
 intro hat B X w0
 refine kw1 (kc1 hpl) kc0 ?_
 refine Zax _ (ZcF 7 1 901 4 rfl rfl rfl) ?_
 refine Zaf (κ := Nat) (fun (k : Nat) => k ≤ (ksF l l.length).length) (fun (k : Nat) => [(2, .ptr 2 0 0 0), (3, .ptr 3 0 0 0), (7, .ptr 7 0 0 0), (17, .d (Zak (Zbr l l.length))), (18, .int (ksF l l.length).length), (19, .int k)]) (fun (k : Nat) => [(2, .cells [.int g.ns.length, .d (Zak (Zbr l l.length)), .d (Zac (Zbs l l.length))]), (3, .cells [.d (Zbl g.nm), .d (.bool g.dir), .d (.sl (g.ns.map ndD)), .d (.sl (g.es.map edD)), .d (.sl (g.cs.map clD))]), (7, .cells [.int g.ns.length, .ref 901 4 0 (Zbo g l k).length (Zbo g l k).length]), (901, .row 4 ((Zbo g l k).map Sx.bdD))]) (fun (k : Nat) => (ksF l l.length).length - k) 0 ?_ ?_ ?_
 ·exact Nat.zero_le _
 ·exact kN (kc4 @Zbo.eq_1 @List.take_zero.{0} @List.map_nil.{0,0} @List.length_nil.{0}) []
 ·intro k hk
  have hl1 := Zhy (g := g) hk
  rcases Nat.lt_or_ge k (ksF l l.length).length with hlt | hge
  ·obtain ⟨i, hi⟩ := Zad hlt
   obtain ⟨q1, q2⟩ := ZjG (List.mem_of_getElem? hi)
   obtain ⟨a, ha⟩ := Zad q1
   obtain ⟨e, he⟩ := Zad (l := g.es) (k := i) (by omega)
   have p1 : (Zbr l l.length)[k]? = some ((a.1 : Int), (a.2 : Int)) := by rw [Zbr, List.getElem?_map, hi]; simp [Ziq, ha]
   have p2 : (Zbs l l.length)[k]? = some (i : Int) := by rw [Zbs, List.getElem?_map, hi]; rfl
   have e1 : Zbo g l (k + 1) = Zbo g l k ++ [((a.1 : Int), (a.2 : Int), e.ln, e.wt)] := by
    rw [Zbo, Zbo, ZaE hi, List.map_append]; simp [Zkh, ha, he]
   have htk : ((Zbo g l k).map Sx.bdD).take k = (Zbo g l k).map Sx.bdD := List.take_of_length_le (by simp [hl1])
   refine kw1 (kc7 p1 p2 he hpl hel hl1 htk) kc0 ?_
   refine ⟨k + 1, ?_, kN (kc7 e1 @List.length_append.{0} @List.length_singleton.{0} @List.map_append.{0,0} @List.map_cons.{0,0} @List.map_nil.{0,0} hl1) [(901, 45)], ?_⟩
   ·exact hlt
   ·omega
  ·obtain rfl : k = (ksF l l.length).length := by omega
   refine Zax _ (Zdk 901 4 ((Zbo g l (ksF l l.length).length).map Sx.bdD) rfl (ZcR _ rfl) (by decide)) ?_
   have htk0 : ((Zbo g l (ksF l l.length).length).map Sx.bdD).take (ksF l l.length).length = (Zbo g l (ksF l l.length).length).map Sx.bdD := List.take_of_length_le (by simp [hl1])
   refine kw1 (kc3 htk0 @List.drop_zero.{0} hl1) (kc1 (kmc [(2000, 950), (2001, 951)] hS)) ?_
   exact ⟨_, rfl, rfl, rfl, Zag rfl, trivial⟩
theorem ZoM (a b : List Int) : Zaa Tryz.prog 31 [Zac a, Zac b] (.bool (decide (a = b))) := by
 refine kE Tryz.func31 ?_
 intro hat B X w0
 have hl := Zbg 0 hat rfl
 rw [List.length_map] at hl
 by_cases hab : a.length = b.length
 ·have hab' : (a.length : Int) = b.length := by omega
  refine kw1 (kc1 @hab') kc0 ?_
  refine Zaf (κ := Nat) (fun (k : Nat) => k ≤ a.length ∧ a.take k = b.take k) (fun (k : Nat) => [(0, .d (Zac a)), (1, .d (Zac b)), (5, .int k)]) (fun (k : Nat) => []) (fun (k : Nat) => a.length - k) 0 ?_ ?_ ?_
  ·exact ⟨Nat.zero_le _, rfl⟩
  ·exact kN kc0 []
  ·rintro k ⟨hk, hinv⟩
   rcases Nat.lt_or_ge k a.length with hlt | hge
   ·obtain ⟨x, hx⟩ := Zad hlt
    obtain ⟨y, hy⟩ := Zad (l := b) (k := k) (by omega)
    by_cases c : x = y
    ·subst c
     refine kw1 (kc2 hx hy) kc0 ?_
     refine ⟨k + 1, ?_, kN kc0 [], ?_⟩
     ·exact ⟨hlt, by rw [ZaE hx, ZaE hy, hinv]⟩
     ·omega
    ·refine kw1 (kc3 hx hy c) kc0 ?_
     exact Zaj (by rw [decide_eq_false (Zfv hx hy c)])
   ·refine kw1 kc0 kc0 ?_
    refine Zaj ?_
    rw [List.take_of_length_le hge, List.take_of_length_le (by omega)] at hinv
    rw [decide_eq_true hinv]
 ·have hab' : ¬ (a.length : Int) = b.length := by omega
  refine kw1 (kc1 @hab') kc0 ?_
  exact Zaj (by rw [decide_eq_false (fun h => hab (by rw [h]))])
def ZeD (m : Nat) (ks : List Nat) (f : List Int) : Nat → List Int
 | 0 => List.replicate m 0
 | k + 1 => (ZeD m ks f k).set (ks[k]?.getD 0) (f[k]?.getD 0)
theorem ZzE (m : Nat) (ks : List Nat) (f : List Int) : ∀ k, (ZeD m ks f k).length = m := by
 intro k
 induction k with
 | zero => simp [ZeD]
 | succ k ih => rw [ZeD, List.length_set, ih]
def Zi9 (g : Gph) (f : List Int) : List Int := ZeD g.es.length (ksF (ZbL g) (ZbL g).length) f (ksF (ZbL g) (ZbL g).length).length
theorem ZwI {g : Gph} (hs : ZbK g) {r f : List Int} (hS : Sx.SolveOk (Zb8 g) r f) : Zaa Tryz.prog 29 [ZbX g] (.tup [Zac r, Zac (Zi9 g f), .int 0]) := by
 have h1 := ZiS g hs.md
 rw [hs.ok] at h1
 have h2 := Zmf hs
 have h3 := Zn0 hs hS
 obtain ⟨n', hn', hr', hf', _⟩ := hS
 obtain ⟨h256, _, _⟩ := Zgo hs.ok
 have hbl := ZhC g
 rw [Zi9]
 simp only [Zb8] at hf'
 rw [Zhy (Nat.le_refl _)] at hf'
 generalize ZbL g = l at *
 have hlk := Zg7 l l.length
 have hel : (Zbs l l.length).length = (ksF l l.length).length := by rw [Zbs, List.length_map]
 refine kE Tryz.func29 ?_
 intro hat B X w0
 refine kw1 (kc1 hel) (kc3 h1 h2 h3) ?_
 refine Zaf (κ := Nat) (fun (k : Nat) => k ≤ (ksF l l.length).length) (fun (k : Nat) => [(7, .d (Zac r)), (8, .d (Zac f)), (10, .ref 33 1 0 g.es.length g.es.length), (35, .d (Zac (Zbs l l.length))), (36, .int (ksF l l.length).length), (37, .int k)]) (fun (k : Nat) => [(33, .row 1 ((ZeD g.es.length (ksF l l.length) f k).map D.int))]) (fun (k : Nat) => (ksF l l.length).length - k) 0 ?_ ?_ ?_
 ·exact Nat.zero_le _
 ·exact kN (kc2 @ZeD.eq_1 @List.map_replicate.{0,0}) []
 ·intro k hk
  have hal := ZzE g.es.length (ksF l l.length) f k
  rcases Nat.lt_or_ge k (ksF l l.length).length with hlt | hge
  ·obtain ⟨i, hi⟩ := Zad hlt
   obtain ⟨x, hx⟩ := Zad (l := f) (k := k) (by omega)
   obtain ⟨q1, q2⟩ := ZjG (List.mem_of_getElem? hi)
   have p2 : (Zbs l l.length)[k]? = some (i : Int) := by rw [Zbs, List.getElem?_map, hi]; rfl
   obtain ⟨y, hy⟩ := Zad (l := ZeD g.es.length (ksF l l.length) f k) (k := i) (by omega)
   have e1 : ZeD g.es.length (ksF l l.length) f (k + 1) = (ZeD g.es.length (ksF l l.length) f k).set i x := by rw [ZeD, hi, hx]; rfl
   refine kw1 (kc5 p2 hel hx hy hal) kc0 ?_
   refine ⟨k + 1, ?_, kN (kc2 e1 @List.map_set.{0,0}) [], ?_⟩
   ·exact hlt
   ·omega
  ·obtain rfl : k = (ksF l l.length).length := by omega
   refine kw1 kc0 kc0 ?_
   exact ⟨_, rfl, rfl, Zdn (o := 33) rfl rfl (by simp [hal]) (by rw [List.take_of_length_le (by simp [hal])]), Zag rfl, trivial⟩
abbrev ZkD (c : UInt8) : Nd := ⟨⟨#[c]⟩, ⟨#[97]⟩, 20000, 10000, -1, []⟩
abbrev Zpy (t : Int) : Ed := ⟨0, t, -1, -1, ⟨#[]⟩, 1, 1⟩
abbrev Zfp : Gph := ⟨⟨#[103]⟩, true, [ZkD 97, ZkD 98, ZkD 99], [Zpy 1, Zpy 2], []⟩
theorem ZvI : Mod Zfp := by
 refine ⟨by decide, fun n hn => ?_, fun e he => ?_, fun c hc => by cases hc⟩
 ·simp only [List.mem_cons, List.not_mem_nil, or_false] at hn
  rcases hn with rfl | rfl | rfl <;> exact ⟨by decide, by decide, fun p hp => by cases hp⟩
 ·simp only [List.mem_cons, List.not_mem_nil, or_false] at he
  rcases he with rfl | rfl <;> decide
theorem ZwO : Zdq Zfp = 0 := by decide +kernel
theorem Ztr : ZbK Zfp := ⟨ZvI, ZwO, by decide⟩
theorem ZpV : ZbL Zfp = [(0, 1), (0, 2)] := by decide +kernel
theorem Zzv : Zb8 Zfp = (3, [(0, 1, 1, 1), (0, 2, 1, 1)]) := by rw [Zb8, ZpV]; decide +kernel
theorem Zyy : Sx.SolveOk (Zb8 Zfp) [0, 1, 1] [1, 1] := by
 rw [Zzv]
 exact Sx.solve_of 3 _ 10 _ _ (by decide +kernel) (by decide +kernel) (by decide +kernel) (by decide +kernel) (by decide +kernel) (by decide +kernel)
theorem ZwB : Zaa Tryz.prog 29 [ZbX Zfp] (.tup [Zac [0, 1, 1], Zac [1, 1], .int 0]) := by
 have h := ZwI Ztr Zyy
 rw [show Zi9 Zfp [1, 1] = [1, 1] by rw [Zi9, ZpV]; decide +kernel] at h
 exact h
theorem ZAg : Zaa Tryz.prog 44 [] (ZbX Zfp) := by
 refine kE Tryz.func44 ?_
 intro hat B X w0
 refine Zhp ⟨Nat.beq 7, ⟨⟩⟩ kc0 kc0 ?_
 refine ⟨_, _, _, _, rfl, ?_⟩
 simp (disch := omega) only [go_sem, simprocAttr]
 rfl
theorem ZuM : Zaa Tryz.prog 12 [] (.bool true) := by
 have h1 := ZAg
 have h2 := ZwB
 have h3 := ZoM [0, 1, 1] [0, 1, 1]
 rw [decide_eq_true rfl] at h3
 refine kE Tryz.func12 ?_
 intro hat B X w0
 refine kw1 kc0 (kc3 h1 h2 h3) ?_
 exact Zaj rfl
end Go.Proofs.YtjjbhjnpeenbkaaGreatDoor.Gr
