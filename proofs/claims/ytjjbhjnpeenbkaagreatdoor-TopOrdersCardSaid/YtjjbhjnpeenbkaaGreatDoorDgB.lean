/- Contracts of searches in lists, degrees and lists of chosen numbers. -/
import Derived.Test.YtjjbhjnpeenbkaaGreatDoorTypes
import Derived.Test.YtjjbhjnpeenbkaaGreatDoorPSFam
import Derived.Test.YtjjbhjnpeenbkaaGreatDoorPSCmp
import Derived.Test.YtjjbhjnpeenbkaaGreatDoorCi
import Derived.Test.YtjjbhjnpeenbkaaGreatDoorSxU
import Derived.Test.YtjjbhjnpeenbkaaGreatDoorN
import Derived.Test.YtjjbhjnpeenbkaaGreatDoorBaF
set_option linter.unusedSimpArgs false
set_option linter.unusedVariables false
set_option maxHeartbeats 16000000
namespace Go.Proofs.YtjjbhjnpeenbkaaGreatDoor.Cyc
open Go Go.PS Go.Proofs
set_option maxRecDepth 100000
attribute [local irreducible] Zab wpG Zaa

def Zeh (l : List Int) (n : Int) : Bool := l.any (fun x => decide (x = n))
def placeF (l : List Int) (n : Int) : Int := ZcH (l.findIdx? (fun x => decide (x = n)))
theorem ZjY (l : List Int) (n : Int) : Zaa Tryz.prog 170 [Zac l, .int n] (.int (placeF l n)) := by
 refine kE Tryz.func170 ?_;intro hat B X w0;have hl := Zbi 0 hat rfl;rw [List.length_map] at hl;refine kw1 kO kc0 kc0 ?_;refine Zai (fun (k : Nat) => k ≤ l.length ∧ ∀ (j : Nat) y, j < k → l[j]? = some y → (decide (y = n)) = false) (fun k => [(0, .d (Zac l)), (1, .int n), (7, .int l.length), (8, .int k)]) (fun k => []) (fun k => l.length - k) 0 ?_ ?_ ?_
 ·exact ⟨Nat.zero_le _, fun j y h => by omega⟩
 ·exact kN kc0 []
 ·rintro k ⟨hk, hinv⟩;rcases Nat.lt_or_ge k l.length with hlt | hge
  ·obtain ⟨p, hp⟩ := Zad hlt;refine kw kO (kc1 hp) kc0 ?_
   repeat' first | exact True.intro | refine Bn.mk ?_ ?_ | intro hc
   ·refine Zah ?_;rw [placeF, Zel hp (by simpa using hc.symm) hinv]; rfl
   ·refine ⟨k + 1, ?_, eL [] _ _ (by refine ⟨?_, ?_⟩ <;> (repeat' first | exact fmn | refine fmc ⟨(by first | rfl | (simp (disch := omega) only [go_sem, simprocAttr, inL]; first | done | omega | (congr 1; done))), ?_⟩); done), ?_⟩
    ·exact ⟨by omega, ZbL hinv hp (by simpa using fun h => hc h.symm)⟩
    ·omega
  ·refine kw1 kO kc0 kc0 ?_;refine Zah ?_;rw [placeF, ZeX (fun j y hy => hinv j y (by have := (List.getElem?_eq_some_iff.1 hy).1; omega) hy)]; rfl
theorem Zuu (l : List Int) (n : Int) : Zaa Tryz.prog 224 [Zac l, .int n] (.bool (Zeh l n)) := by
 refine kE Tryz.func224 ?_;intro hat B X w0;refine kw1 kO kc0 (kc1 (ZjY l n)) ?_;exact Zaj (ZgG _ l)
def ZiC (l : List Arc) (a : Arc) : Option Nat := l.findIdx? (fun x => decide (x = a))
theorem ZsV (l : List Int) (i : Nat) (x : Int) (hx : l[i]? = some x) : Zaa Tryz.prog 242 [Zac l, .int i] (.bool (Zeh (l.take i) x)) := by
 have hi := (List.getElem?_eq_some_iff.1 hx).1;refine kE Tryz.func242 ?_;intro hat B X w0;have hl := Zbi 0 hat rfl;rw [List.length_map] at hl;have hr := Zuu (l.take i) x;simp only [Zac, List.map_take] at hr
 repeat' first | refine ZaK rfl ?_ | refine ZaF ?_ | refine wR ?_ | (refine rc (hr) rfl ?_ ?_; (· first | rfl | simp (disch := omega) only [go_sem, simprocAttr, hx])) | (refine ZaM rfl rfl (fun hc => ?_) (fun hc => ?_) <;> try simp only [hcL] at hc) | (refine ZaL _ rfl rfl (fun hc => ?_) (fun hc => ?_) <;> (try simp only [hcL] at hc) <;> try omega) | simp (disch := omega) only [go_sem, simprocAttr, hx] | exact Zgy D.int 1 (fun _ => rfl) l | apply And.intro | omega | decide +kernel
 exact Zaj rfl

def ZfH (l : List Int) (n : Int) (k : Nat) : Int := match l[k]? with
 | some x => if x < 0 ∨ n ≤ x then 3 else if Zeh (l.take k) x then 6 else 0
 | none => 0
def Zfw (l : List Int) (n : Int) : Int := Zdg (ZfH l n) l.length
theorem ZxJ (l : List Int) (n : Int) : Zaa Tryz.prog 209 [Zac l, .int n] (.int (Zfw l n)) := by
 refine kE Tryz.func209 ?_;intro hat B X w0;have hl := Zbi 0 hat rfl;rw [List.length_map] at hl;refine kw1 kO kc0 kc0 ?_;refine Zai (fun (k : Nat) => k ≤ l.length ∧ Zdg (ZfH l n) k = 0) (fun k => [(0, .d (Zac l)), (1, .int n), (7, .d (Zac l)), (8, .int l.length), (9, .int k)]) (fun k => []) (fun k => l.length - k) 0 ?_ ?_ ?_
 ·exact ⟨Nat.zero_le _, rfl⟩
 ·exact kN kc0 []
 ·rintro k ⟨hk, hinv⟩;rcases Nat.lt_or_ge k l.length with hlt | hge
  ·obtain ⟨p, hp⟩ := Zad hlt;have hr := ZsV l k p hp;refine kw kO (kc1 hp) (kc1 hr) ?_
   repeat' first | exact True.intro | refine Bn.mk ?_ ?_ | intro hc
   all_goals try
    refine Zah ?_
    first
     | exact (Zpx hlt hinv (by simp only [ZfH, hp]; rw [if_pos (by omega)]) (by decide)).symm
     | exact (Zpx hlt hinv (by simp only [ZfH, hp]; rw [if_neg (by omega), if_pos (by assumption)]) (by decide)).symm
   ·refine ⟨k + 1, ?_, eL [] _ _ (by refine ⟨?_, ?_⟩ <;> (repeat' first | exact fmn | refine fmc ⟨(by first | rfl | (simp (disch := omega) only [go_sem, simprocAttr, inL]; first | done | omega | (congr 1; done))), ?_⟩); done), ?_⟩
    ·refine ⟨by omega, Zn3 hinv ?_⟩;simp only [ZfH, hp]; rw [if_neg (by omega), if_neg (by simp [*])]
    ·omega
  ·refine kw1 kO kc0 kc0 ?_;refine Zah ?_;have : k = l.length := by omega
   rw [Zfw, ← this, hinv]
end Go.Proofs.YtjjbhjnpeenbkaaGreatDoor.Cyc
namespace Go.Proofs.YtjjbhjnpeenbkaaGreatDoor.Cyc
open Go Go.PS Go.Proofs
set_option maxRecDepth 100000
attribute [local irreducible] Zab wpG Zaa Zaf

theorem ZmA (l : List Arc) : ∀ d, d ∈ l.map ZaY → d.cells.length = 2 := Zgy ZaY 2 (fun _ => rfl) l
theorem ZtB : Zaa Tryz.prog 210 [Zak []] (Zak []) := by
 refine kE Tryz.func210 ?_;intro hat B X w0;refine kw1 kO kc0 kc0 ?_;refine Zir 4 rfl ?_;intro b;cases b
 ·repeat' first | refine ZaK rfl ?_ | refine ZaF ?_ | refine Zci (Nat.beq 5) Zbr ?_ | (refine ZaM rfl rfl (fun hc => ?_) (fun hc => ?_) <;> try simp only [hcL] at hc) | (refine ZaL _ rfl rfl (fun hc => ?_) (fun hc => ?_) <;> (try simp only [hcL] at hc) <;> try omega) | simp (disch := omega) only [go_sem, simprocAttr, roomy] | apply And.intro | omega | decide +kernel
  exact ZcI rfl
 ·refine kw1 kO kc0 kc0 ?_;exact ZcI rfl
theorem ZjP (l : List Arc) (hl : l ≠ []) (hn : l.length ≤ 1000000) : Zaf Tryz.prog 210 [.d (Zak l)] [(2000, .dead)] (.ref 2000 2 0 l.length l.length) [(2000, .row 2 (l.map ZaY))] := by
 have he : (l.map ZaY).isEmpty = false := by simpa using hl
 have hpos : 0 < l.length := List.length_pos_iff.2 hl;refine kM Tryz.func210 ?_;intro B X w0
 repeat' first | refine ZaK rfl ?_ | refine Zci (Nat.beq 5) Zbr ?_ | (refine ZaM rfl rfl (fun hc => ?_) (fun hc => ?_) <;> try simp only [hcL] at hc) | (refine ZaL _ rfl rfl (fun hc => ?_) (fun hc => ?_) <;> (try simp only [hcL] at hc) <;> try omega) | simp (disch := omega) only [go_sem, simprocAttr, he, roomy, Zat] | exact ZmA l | apply And.intro | omega | decide +kernel
 refine kR kc0 [(2000, 7)] [(2, .ref 2000 2 0 _ _)] [(2000, .row 2 _)] ?_;refine ZaF ?_;exact ⟨rfl, List.forall_mem_cons.2 ⟨rfl, List.forall_mem_nil _⟩⟩

def Zjo (a : Arc) : Arc := (a.2, a.1)
def ZeC (l : List Arc) (set : List Int) : List Arc := l.mapIdx fun i a => if Zeh set i then Zjo a else a
theorem ZgA (l : List Arc) (set : List Int) : (ZeC l set).length = l.length := by simp [ZeC]
theorem ZiR {l : List Arc} {set : List Int} {k : Nat} {a : Arc} (h : l[k]? = some a) : (ZeC l set)[k]? = some (if Zeh set k then Zjo a else a) := by
 simp [ZeC, List.getElem?_mapIdx, h]
theorem Zx0 (l : List Arc) : ZeC l [] = l := by
 refine List.ext_getElem? fun u => ?_
 rcases Nat.lt_or_ge u l.length with h | h
 ·obtain ⟨a, ha⟩ := Zad h;rw [ZiR ha, ha]; simp [Zeh]
 ·rw [List.getElem?_eq_none (by rw [ZgA]; exact h), List.getElem?_eq_none h]
theorem ZtU {set : List Int} {j : Nat} {x : Int} (hx : set[j]? = some x) (n : Int) : Zeh (set.take (j + 1)) n = (Zeh (set.take j) n || decide (x = n)) := by
 simp [Zeh, ZaD hx]
theorem ZAa {l : List Arc} {set : List Int} {j i : Nat} {a : Arc} (hx : set[j]? = some (i : Int)) (ha : l[i]? = some a) :
  ZeC l (set.take (j + 1)) = (ZeC l (set.take j)).set i (Zjo a) := by
 refine List.ext_getElem? fun u => ?_
 rcases Nat.lt_or_ge u l.length with h | h
 ·obtain ⟨b, hb⟩ := Zad h;rw [ZiR hb, ZtU hx, List.getElem?_set, ZiR hb, ZgA];by_cases hi : i = u
  ·subst hi;rw [ha] at hb; cases hb;simp [h]
  ·have : ¬ (i : Int) = u := by omega
   simp [hi, this]
 ·rw [List.getElem?_eq_none (by rw [ZgA]; exact h), List.getElem?_eq_none (by rw [List.length_set, ZgA]; exact h)]
theorem Zw5 {e : Nat → Int} {n k : Nat} (h : Zdg e n = 0) (hk : k < n) : e k = 0 := by
 induction n with
 | zero => omega
 | succ n ih =>
  simp only [Zdg] at h;split at h
  ·rename_i h0;rcases Nat.lt_succ_iff_lt_or_eq.1 hk with h1 | rfl
   ·exact ih h0 h1
   ·exact h
  ·rename_i h0; exact (h0 h).elim
theorem Zpn {l : List Int} {n : Int} (h : Zfw l n = 0) {k : Nat} {x : Int} (hx : l[k]? = some x) : 0 ≤ x ∧ x < n := by
 have := Zw5 h (List.getElem?_eq_some_iff.1 hx).1;simp only [ZfH, hx] at this;split at this
 ·omega
 ·omega
def ZeJ (g : Gr) (set : List Int) : Gr × Int := if gOk g then (if Zfw set g.2.length = 0 then ((g.1, ZeC g.2 set), 0) else ((0, []), Zfw set g.2.length)) else ((0, []), 1)
theorem ZuI (g : Gr) (set : List Int) : Zaa Tryz.prog 158 [gD g, Zac set] (.tup [gD (ZeJ g set).1, .int (ZeJ g set).2]) := by
 rcases h : gOk g with _ | _
 ·have hv : Zaa Tryz.prog 97 [gD g] (.bool false) := h ▸ ZfA g;have e : ZeJ g set = ((0, []), 1) := by simp [ZeJ, h]
  rw [e];refine kE Tryz.func158 ?_;intro hat B X w0;refine kw1 kO kc0 (kc1 hv) ?_;refine ⟨_, rfl, ⟨_, _, _, _, rfl, ?_⟩, Zah ?_, trivial⟩
  ·simp (disch := omega) only [go_sem, simprocAttr];rfl
  ·rfl
 ·have hv : Zaa Tryz.prog 97 [gD g] (.bool true) := h ▸ ZfA g;obtain ⟨h1, h2, h3, h4⟩ := ZhR h;obtain ⟨n, l⟩ := g;dsimp only at h1 h2 h3 h4;have hs := ZxJ set l.length;rcases Decidable.em (Zfw set l.length = 0) with c | c
  ·have e : ZeJ (n, l) set = ((n, ZeC l set), 0) := by simp [ZeJ, h, c]
   rw [e];rw [c] at hs;rcases Decidable.em (l = []) with hl0 | hl0
   ·subst hl0;have hse : set = [] := by
     cases set with
     | nil => rfl
     | cons x t =>
      have := Zpn (x := x) (k := 0) c rfl;simp at this; omega
    subst hse;refine kE Tryz.func158 ?_;intro hat B X w0;have hcl := ZtB;refine kw1 kO kc0 (kc3 hv hs hcl) ?_;refine Zai (fun (k : Nat) => k = 0) (fun k => [(4, .ptr 4 0 0 0), (7, .ptr 7 0 0 0), (30, .int 0), (31, .int k)]) (fun k => [(4, .cells [.int 0, .nilS]), (7, .cells [.int n, .d (.sl [])])]) (fun k => k) 0 ?_ ?_ ?_
    ·rfl
    ·exact kN kc0 []
    ·rintro k rfl;refine kw1 kO kc0 kc0 ?_;refine ⟨_, rfl, ⟨_, _, _, _, rfl, ?_⟩, Zah ?_, trivial⟩
     ·simp (disch := omega) only [go_sem, simprocAttr];rfl
     ·rfl
   ·have hcl := ZjP l hl0 (by omega);refine kE Tryz.func158 ?_;intro hat B X w0;have hsl := Zbi 1 hat rfl;rw [List.length_map] at hsl;refine kw1 kO kc0 (kc3 hv hs (kmc [(2000, 27)] hcl)) ?_;refine Zai (fun (k : Nat) => k ≤ set.length) (fun k => [(2, .ptr 2 0 0 0), (4, .ptr 4 0 0 0), (7, .ptr 7 0 0 0), (29, .d (Zac set)), (30, .int set.length), (31, .int k)]) (fun k => [(2, .cells [.int n, .d (Zak l)]), (4, .cells [.int 0, .nilS]), (7, .cells [.int n, .ref 27 2 0 l.length l.length]), (27, .row 2 ((ZeC l (set.take k)).map ZaY))]) (fun k => set.length - k) 0 ?_ ?_ ?_
    ·exact Nat.zero_le _
    ·exact kN (kc2 @List.take_zero.{0} @Zx0) []
    ·intro k hk;rcases Nat.lt_or_ge k set.length with hlt | hge
     ·obtain ⟨x, hx⟩ := Zad hlt;have hxi := Zpn c hx;obtain ⟨i, rfl⟩ : ∃ i : Nat, x = i := ⟨x.toNat, by omega⟩;obtain ⟨p, hp⟩ := Zad (show i < l.length by omega);have hg := ZiR (set := set.take k) hp;have hstep := ZAa hx hp;have hlen := ZgA l (set.take k);refine kw1 kO (kc4 hx hp hg hlen) kc0 ?_;refine ⟨k + 1, ?_, kN (kc2 @hstep @List.map_set.{0,0}) [], ?_⟩
      ·omega
      ·omega
     ·refine kw1 kO kc0 kc0 ?_;have : k = set.length := by omega
      subst this;refine ⟨_, rfl, ⟨_, _, _, _, rfl, ?_⟩, Zah ?_, trivial⟩
      ·simp (disch := omega) only [go_sem, simprocAttr];simp [toD, gD, Zak, ZgA, List.take_of_length_le]
      ·rfl
  ·have e : ZeJ (n, l) set = ((0, []), Zfw set l.length) := by simp [ZeJ, h, c]
   rw [e];refine kE Tryz.func158 ?_;intro hat B X w0;refine kw1 kO kc0 (kc2 hv hs) ?_;refine ⟨_, rfl, ⟨_, _, _, _, rfl, ?_⟩, Zah ?_, trivial⟩
   ·simp (disch := omega) only [go_sem, simprocAttr];rfl
   ·rfl
end Go.Proofs.YtjjbhjnpeenbkaaGreatDoor.Cyc
namespace Go.Proofs.YtjjbhjnpeenbkaaGreatDoor.Cyc
open Go Go.PS Go.Proofs
open Go.Cy (NA)
set_option maxRecDepth 100000
attribute [local irreducible] Zab wpG Zaa Zaf

def tzF : Nat → Nat → Nat
 | 0, _ => 0
 | f + 1, x => if x % 2 = 1 then 0 else tzF f (x / 2) + 1
def tz (x : Nat) : Nat := tzF 8 x
theorem ZvI : tabs Tryz.prog = [(1, Zd6)] := by kernel_rfl
theorem ZwB : (Zeo [(1, Zd6)] 1).length = 64 := by decide +kernel
def tzI (x : Nat) : Nat := ((IntKind.u64.wrap (IntKind.u64.wrap ((BitVec.ofInt 64 (x : Int) &&& BitVec.ofInt 64 (IntKind.u64.wrap (-(x : Int)))).toNat : Int) * 285870213051353865)).fdiv (2 ^ min 58 64)).toNat
theorem ZzS : ∀ x : Nat, x < 256 → 0 < x → (IntKind.u64.wrap (IntKind.u64.wrap ((BitVec.ofInt 64 (x : Int) &&& BitVec.ofInt 64 (IntKind.u64.wrap (-(x : Int)))).toNat : Int) * 285870213051353865)).fdiv (2 ^ min 58 64) = (tzI x : Int) ∧ tzI x < 64 ∧ Zd6[tzI x]? = some (tz x : Int) := by decide +kernel
theorem Zvd {k : Nat} {v : Int} (h : Zd6[k]? = some v) : (Zeo [(1, Zd6)] 1).drop k = D.sc (.int .u8 v) :: (Zeo [(1, Zd6)] 1).drop (k + 1) := by
 have h1 : (Zeo [(1, Zd6)] 1)[k]? = some (D.sc (.int .u8 v)) := by
  show (Zd6.map fun v => D.sc (.int .u8 v))[k]? = _;rw [List.getElem?_map, h]; rfl
 obtain ⟨h2, h3⟩ := List.getElem?_eq_some_iff.1 h1;rw [List.drop_eq_getElem_cons h2, h3]
theorem Zwe (x : Nat) (h0 : 0 < x) (h1 : x < 256) : Zaa Tryz.prog 261 [.sc (.int .u64 x)] (.int (tz x)) := by
 obtain ⟨k, e1, e2, e3⟩ : ∃ k : Nat, (IntKind.u64.wrap (IntKind.u64.wrap ((BitVec.ofInt 64 (x : Int) &&& BitVec.ofInt 64 (IntKind.u64.wrap (-(x : Int)))).toNat : Int) * 285870213051353865)).fdiv (2 ^ min 58 64) = (k : Int) ∧ k < 64 ∧ Zd6[k]? = some (tz x : Int) := ⟨_, ZzS x h1 h0⟩;have e4 := Zvd e3;have e5 : (0 : Int) ≤ k := Int.natCast_nonneg _;have e6 : IntKind.i64.wrap (tz x : Int) = tz x := by
  have : ∀ x : Nat, x < 256 → IntKind.i64.wrap (tz x : Int) = tz x := by decide +kernel
  exact this x h1
 refine kE Tryz.func261 ?_;intro hat B X w0;refine kw1 kO (kc7 @ZvI e1 e4 e6 e2 @ZwB @Int.toNat_natCast) kc0 ?_;exact Zah rfl
theorem Zwt (x : Nat) (h0 : 0 < x) (h1 : x < 256) : Zaa Tryz.prog 236 [.sc (.int .u64 x)] (.int (tz x)) := by
 have h := Zwe x h0 h1;refine kE Tryz.func236 ?_;intro hat B X w0;refine kw1 kO kc0 (kc1 h) ?_;exact Zah rfl
end Go.Proofs.YtjjbhjnpeenbkaaGreatDoor.Cyc
namespace Go.Proofs.YtjjbhjnpeenbkaaGreatDoor.Cyc
open Go Go.PS Go.Proofs
open Go.Cy (NA Zb0 Zcq Zga Zep ZdC Zei atN inB ZdO fmF Zee)
set_option maxRecDepth 100000
attribute [local irreducible] Zab wpG Zaa Zaf

abbrev Zaw (n : Nat) : D := .int n
abbrev Zcc (l : List Nat) : D := .sl (l.map Zaw)
def Za6 (c : Nat → Nat → Nat) (f : PV) : List PV := (List.range 64).map (fun i => PV.int (c (i / 8) (i % 8))) ++ [f]
theorem Zh2 (c : Nat → Nat → Nat) (f : PV) : (Za6 c f).length = 65 := by simp [Za6]
theorem Zz0 (c : Nat → Nat → Nat) (f : PV) {v u : Nat} (hv : v < 8) (hu : u < 8) : ∃ r, (Za6 c f).drop (v * 8 + u) = .int (c v u) :: r := by
 have h1 : (Za6 c f)[v * 8 + u]? = some (.int (c v u)) := by
  rw [Za6, List.getElem?_append_left (by simp; omega), List.getElem?_map, List.getElem?_range (by omega)];simp only [Option.map_some];rw [show (v * 8 + u) / 8 = v by omega, show (v * 8 + u) % 8 = u by omega]
 obtain ⟨h2, h3⟩ := List.getElem?_eq_some_iff.1 h1;exact ⟨_, by rw [List.drop_eq_getElem_cons h2, h3]⟩
theorem Zoc (n : PV) (c : Nat → Nat → Nat) (f : PV) {v u : Nat} (hv : v < 8) (hu : u < 8) : ∃ r, (n :: Za6 c f).drop (1 + v * 8 + u) = .int (c v u) :: r := by
 rw [show 1 + v * 8 + u = (v * 8 + u) + 1 by omega, List.drop_succ_cons];exact Zz0 c f hv hu
theorem ZkT (c : Nat → Nat → Nat) (f : PV) : (Za6 c f).drop 64 = [f] := by
 rw [Za6, List.drop_left' (by simp)]
theorem Zk1 : ∀ x : Nat, x < 256 → 0 < x → tz x < 8 ∧ Go.Cy.bits 8 x = tz x :: Go.Cy.bits 8 (x &&& (x - 1)) ∧ (x &&& (x - 1)) < x := by decide +kernel
theorem ZqG {n s : Nat} (h : n ≤ 8) (hs : s < 2 ^ n) : Go.Cy.bits n s = Go.Cy.bits 8 s := by
 have e : List.range 8 = List.range n ++ (List.range (8 - n)).map (n + ·) := by
  rw [show 8 = n + (8 - n) by omega, List.range_add]; simp
 rw [Go.Cy.bits, Go.Cy.bits, e, List.filter_append];have : ((List.range (8 - n)).map (n + ·)).filter (fun u => s.testBit u) = [] := by
  rw [List.filter_eq_nil_iff];intro u hu;obtain ⟨k, _, rfl⟩ := List.mem_map.1 hu;rw [Nat.testBit_lt_two_pow (Nat.lt_of_lt_of_le hs (Nat.pow_le_pow_right (by decide) (by omega)))]
  decide
 rw [this, List.append_nil]
theorem Zvi {n x : Nat} (h : n ≤ 8) (h0 : 0 < x) (hx : x < 2 ^ n) : tz x < n := by
 have := Go.Cy.pow_le8 h;obtain ⟨_, h2, _⟩ := Zk1 x (by omega) h0;have h3 : tz x ∈ Go.Cy.bits n x := by rw [ZqG h hx, h2]; simp
 exact (Go.Cy.mem_bits.1 h3).1
def Zfl (f : Nat → Nat) (x : Nat) : Nat := ((Go.Cy.bits 8 x).map f).sum
theorem ZyV {f : Nat → Nat} {x : Nat} (hx : x < 256) (h0 : 0 < x) : Zfl f x = f (tz x) + Zfl f (x &&& (x - 1)) := by
 obtain ⟨_, h2, _⟩ := Zk1 x hx h0;rw [Zfl, h2]; simp [Zfl]
theorem Zua (f : Nat → Nat) : Zfl f 0 = 0 := by
 have : Go.Cy.bits 8 0 = [] := by decide +kernel
 rw [Zfl, this]; rfl
theorem Zoi {f : Nat → Nat} {k : Nat} : ∀ {l : List Nat}, (∀ u, u ∈ l → f u ≤ k) → (l.map f).sum ≤ l.length * k
 | [], _ => by simp
 | x :: l, h => by
  have h1 := h x (by simp);have h2 := Zoi fun u hu => h u (List.mem_cons_of_mem _ hu)
  simp only [List.map_cons, List.sum_cons, List.length_cons, Nat.add_mul]; omega
theorem Zvv {f : Nat → Nat} {k x : Nat} (h : ∀ u, f u ≤ k) : Zfl f x ≤ 8 * k := by
 refine Nat.le_trans (Zoi fun u _ => h u) (Nat.mul_le_mul_right _ ?_);exact Nat.le_trans (List.length_filter_le _ _) (by simp)
theorem ZyF (n : Nat) (c : Nat → Nat → Nat) (fm : List Nat) (s : Nat) : Zcq n c fm s ≤ 1048576 := by
 cases s with
 | zero => rw [Go.Cy.costN_zero]; omega
 | succ k => rw [Go.Cy.costN_succ, Zga]; exact Go.Cy.foldMin_le.1
def ZcP (n : Nat) (c : Nat → Nat → Nat) (fm : List Nat) (k v : Nat) : Nat := Zei (ZdC n fm (k + 1)) (Zep n c (Zb0 n c fm k) (k + 1)) (List.range v) 1048576
theorem ZyX (n : Nat) (c : Nat → Nat → Nat) (fm : List Nat) (k : Nat) : ZcP n c fm k 0 = 1048576 := rfl
theorem Zxc (n : Nat) (c : Nat → Nat → Nat) (fm : List Nat) (k v : Nat) : ZcP n c fm k (v + 1) = if ZdC n fm (k + 1) v = true then min (ZcP n c fm k v) (Zep n c (Zb0 n c fm k) (k + 1) v) else ZcP n c fm k v := by
 simp [ZcP, Zei, List.range_succ]
def Zdd (n : Nat) (c : Nat → Nat → Nat) (fm : List Nat) (L k : Nat) (x : Nat) : List D := (Zb0 n c fm k).map Zaw ++ Zaw x :: List.replicate (L - (k + 2)) (.int 0)
def Zd9 (n : Nat) (c : Nat → Nat → Nat) (fm : List Nat) (L k : Nat) : List D := (Zb0 n c fm k).map Zaw ++ List.replicate (L - (k + 1)) (.int 0)
theorem ZvQ (n : Nat) (c : Nat → Nat → Nat) (fm : List Nat) (L k x y : Nat) : (Zdd n c fm L k x).set (k + 1) (Zaw y) = Zdd n c fm L k y := by
 have h := Go.Cy.costL_len n c fm k;rw [Zdd, List.set_append_right _ _ (by simp [h]), List.length_map, h, Nat.sub_self]; rfl
theorem Zz4 (n : Nat) (c : Nat → Nat → Nat) (fm : List Nat) {L k : Nat} (y : Nat) (hk : k + 1 < L) : (Zd9 n c fm L k).set (k + 1) (Zaw y) = Zdd n c fm L k y := by
 have h := Go.Cy.costL_len n c fm k;rw [Zd9, List.set_append_right _ _ (by simp [h]), List.length_map, h, Nat.sub_self, show L - (k + 1) = (L - (k + 2)) + 1 by omega, List.replicate_succ]; rfl
theorem Zvj (n : Nat) (c : Nat → Nat → Nat) (fm : List Nat) {L k x : Nat} (hk : k + 1 < L) : (Zdd n c fm L k x).length = L := by
 simp [Zdd, Go.Cy.costL_len]; omega
theorem Zzx (n : Nat) (c : Nat → Nat → Nat) (fm : List Nat) {L k : Nat} (hk : k < L) : (Zd9 n c fm L k).length = L := by
 simp [Zd9, Go.Cy.costL_len]; omega
theorem ZpR (n : Nat) (c : Nat → Nat → Nat) (fm : List Nat) {k s : Nat} (h : s ≤ k) : (Zb0 n c fm k)[s]? = some (Zcq n c fm s) := by
 have h1 : s < (Zb0 n c fm k).length := by rw [Go.Cy.costL_len]; omega
 have h2 := Go.Cy.costL_at n c fm h;rw [atN, List.getElem?_eq_getElem h1] at h2;rw [List.getElem?_eq_getElem h1];simp only [Option.getD_some] at h2;rw [h2]
theorem Zw6 (n : Nat) (c : Nat → Nat → Nat) (fm : List Nat) {L k x s : Nat} (h : s ≤ k) : (Zdd n c fm L k x)[s]? = some (Zaw (Zcq n c fm s)) := by
 rw [Zdd, List.getElem?_append_left (by simp [Go.Cy.costL_len]; omega), List.getElem?_map, ZpR n c fm h]; rfl
theorem ZwT (n : Nat) (c : Nat → Nat → Nat) (fm : List Nat) (L k x : Nat) : (Zdd n c fm L k x)[k + 1]? = some (Zaw x) := by
 have h := Go.Cy.costL_len n c fm k;rw [Zdd, List.getElem?_append_right (by simp [h])]; simp [h]
theorem ZwM (n : Nat) (c : Nat → Nat → Nat) (fm : List Nat) {L k s : Nat} (h : s ≤ k) : (Zd9 n c fm L k)[s]? = some (Zaw (Zcq n c fm s)) := by
 rw [Zd9, List.getElem?_append_left (by simp [Go.Cy.costL_len]; omega), List.getElem?_map, ZpR n c fm h]; rfl
theorem Zva (n : Nat) (c : Nat → Nat → Nat) (fm : List Nat) {L k : Nat} (h : k + 1 < L) : (Zd9 n c fm L k)[k + 1]? = some (.int 0) := by
 have h1 := Go.Cy.costL_len n c fm k;rw [Zd9, List.getElem?_append_right (by simp [h1]), List.getElem?_replicate];simp [h1]; omega
theorem Zx5 (n : Nat) (c : Nat → Nat → Nat) (fm : List Nat) (L k : Nat) : Zdd n c fm L k (ZcP n c fm k n) = Zd9 n c fm L (k + 1) := by
 have : Zb0 n c fm (k + 1) = Zb0 n c fm k ++ [ZcP n c fm k n] := rfl;rw [Zdd, Zd9, this, List.map_append, List.append_assoc]; rfl
theorem Zvm (n : Nat) (c : Nat → Nat → Nat) (fm : List Nat) {L : Nat} (h : 0 < L) : Zd9 n c fm L 0 = List.replicate L (.int 0) := by
 obtain ⟨k, rfl⟩ : ∃ k, L = k + 1 := ⟨L - 1, by omega⟩;rw [List.replicate_succ]; rfl
theorem ZqA (n : Nat) (c : Nat → Nat → Nat) (fm : List Nat) (h8 : n ≤ 8) (hcc : ∀ u v, c u v ≤ 256) (hl : fm.length = n) (hf : ∀ v, atN fm v < 2 ^ n) :
  Zaf Tryz.prog 207 [.ptr 1000 0 0 0] [(1000, .cells (.int n :: Za6 c (.ref 1001 1 0 n n))), (1001, .row 1 (fm.map Zaw))] (.int (ZdO n c fm)) [(1000, .cells (.int n :: Za6 c (.ref 1001 1 0 n n))), (1001, .row 1 (fm.map Zaw))] := by
 have hpos := Go.Cy.pow_pos' n;have hp8 := Go.Cy.pow_le8 h8;have hsh := Zjl n h8;obtain ⟨L, hL⟩ : ∃ L, L = 2 ^ n := ⟨_, rfl⟩;rw [← hL] at hpos hp8 hsh;have hx1 := ZkT c (.ref 1001 1 0 n n);refine kM Tryz.func207 ?_;intro B X w0;refine kw1 kO (kc1 hsh) kc0 ?_;refine Zai (fun (k : Nat) => k < L) (fun k => [(0, .ptr 1000 0 0 0), (3, .ref 14 1 0 L L), (4, .int (k + 1 : Nat))]) (fun k => [(14, .row 1 (Zd9 n c fm L k)), (1000, .cells (.int n :: Za6 c (.ref 1001 1 0 n n))), (1001, .row 1 (fm.map Zaw))]) (fun k => L - k) 0 ?_ ?_ ?_
 ·exact hpos
 ·exact kN (kc1 (Zvm n c fm hpos)) []
 ·intro k hk;have hpl := Zzx n c fm hk;rcases Nat.lt_or_ge (k + 1) L with hlt | hge
  ·have hset := Zz4 n c fm 1048576 hlt;have hnx := Zva n c fm hlt;refine kw1 kO (kc4 hx1 hpl hset hnx) kc0 ?_;refine Zai (fun (v : Nat) => v ≤ n) (fun v => [(0, .ptr 1000 0 0 0), (3, .ref 14 1 0 L L), (4, .int (k + 1 : Nat)), (27, .int n), (28, .int v)]) (fun v => [(14, .row 1 (Zdd n c fm L k (ZcP n c fm k v))), (1000, .cells (.int n :: Za6 c (.ref 1001 1 0 n n))), (1001, .row 1 (fm.map Zaw))]) (fun v => n - v) 0 ?_ ?_ ?_
   ·exact Nat.zero_le _
   ·exact kN (kc1 @ZyX) []
   ·intro v hv;have hkl : (Zdd n c fm L k (ZcP n c fm k v)).length = L := Zvj n c fm hlt;rcases Nat.lt_or_ge v n with hvl | hvg
    ·obtain ⟨f, hfv⟩ := Zad (show v < fm.length by omega);have hfa : atN fm v = f := by rw [atN, hfv]; rfl
     have hf8 : f < 2 ^ n := by rw [← hfa]; exact hf v
     have hb := Zy2 (k + 1) (by omega) v (by omega);have hsucc := Zxc n c fm k v;by_cases hbit : (k + 1).testBit v = true
     ·rw [if_pos hbit] at hb;obtain ⟨p, hp⟩ : ∃ p, p = 2 ^ v := ⟨_, rfl⟩;obtain ⟨r, hr⟩ : ∃ r, r = k + 1 - 2 ^ v := ⟨_, rfl⟩;have hrk := (Go.Cy.clr (k + 1) (by omega) v (by omega) hbit).1;rw [← hr] at hrk;have hp8' : p < 256 := by rw [hp]; exact Nat.pow_lt_pow_right (n := 8) (by decide) (by omega)
      have e1 := Zjl v (by omega);rw [← hp] at e1;have e2 := ZnG (a := k + 1) (b := p) (by omega) (by omega);rw [hp, Zsx (k + 1) (by omega) v (by omega) hbit, ← hr, ← hp] at e2;have e3 := ZnG (a := f) (b := r) (by omega) (by omega);have hz := Zwu (b := r) hf8;have hok : ZdC n fm (k + 1) v = inB n f r := by rw [ZdC, hbit, hfa, hr]; rfl
      rw [hok] at hsucc;have hg := Zw6 n c fm (L := L) (x := ZcP n c fm k v) (show r ≤ k by omega);rcases hin : inB n f r with _ | _
      ·rw [hin] at hsucc hz;have hz' : ¬ ((Zet f r : Nat) : Int) = 0 := fun h => by have := hz.1 (by omega); cases this
       refine kw1 kO (kc8 hx1 hkl hfv hb e1 e2 e3 @hz') kc0 ?_;refine ⟨v + 1, ?_, eL [] _ _ (by refine ⟨?_, ?_⟩ <;> (repeat' first | exact fmn | refine fmc ⟨(by first | rfl | (simp (disch := omega) only [go_sem, simprocAttr, inL, hsucc, if_neg Bool.false_ne_true]; first | done | omega | (congr 1; done))), ?_⟩); done), ?_⟩
       ·omega
       ·omega
      ·rw [hin] at hsucc hz;have hz' := hz.2 rfl;have hr8 : r < 256 := by omega
       have hcg : Zep n c (Zb0 n c fm k) (k + 1) v = Zcq n c fm r + Zfl (c v) r := by
        rw [Zep, ← hr, Go.Cy.costL_at n c fm (by omega), ZqG h8 (by omega)]; rfl
       have hcn := ZyF n c fm r;have hsb := Zvv (x := r) (hcc v);refine kw1 kO (kc8 hx1 hkl hfv hb e1 e2 e3 (kc2 @hz' hg)) kc0 ?_;refine Zai (fun (q : Nat × Nat) => match q with | (x, y) => x ≤ r ∧ y + Zfl (c v) x = Zep n c (Zb0 n c fm k) (k + 1) v) (fun (x, y) => [(0, .ptr 1000 0 0 0), (3, .ref 14 1 0 L L), (4, .int (k + 1 : Nat)), (5, .int v), (7, .int y), (8, .int x), (27, .int n), (28, .int v)]) (fun (x, y) => [(14, .row 1 (Zdd n c fm L k (ZcP n c fm k v))), (1000, .cells (.int n :: Za6 c (.ref 1001 1 0 n n))), (1001, .row 1 (fm.map Zaw))]) (fun (x, y) => x) (r, Zcq n c fm r) ?_ ?_ ?_
       ·exact ⟨Nat.le_refl _, hcg.symm⟩
       ·exact kN kc0 []
       ·rintro ⟨x, y⟩ ⟨hxr, hy⟩;dsimp only at hxr hy ⊢;rcases Nat.eq_zero_or_pos x with rfl | hx0
        ·rw [Zua, Nat.add_zero] at hy;have hcu := ZwT n c fm L k (ZcP n c fm k v);have hst := ZvQ n c fm L k (ZcP n c fm k v);have hmin : (if (y : Int) < (ZcP n c fm k v : Nat) then (y : Int) else (ZcP n c fm k v : Nat)) = (min (ZcP n c fm k v) y : Nat) := by omega
         refine kw1 kO (kc5 hx1 hkl hcu hst hmin) kc0 ?_;refine ⟨v + 1, ?_, kN (kc3 @hsucc @if_pos.{0} hy) [], ?_⟩
         ·omega
         ·omega
        ·have htz := Zwt x hx0 (by omega);have htn := Zvi h8 hx0 (by omega : x < 2 ^ n);have hstep := ZyV (f := c v) (show x < 256 by omega) hx0;have hlt2 := (Zk1 x (by omega) hx0).2.2;obtain ⟨q, hq⟩ := Zoc (.int n) c (.ref 1001 1 0 n n) (show v < 8 by omega) (show tz x < 8 by omega);have hcv := hcc v (tz x);have hw := Zme (x := (y : Int) + (c v (tz x) : Nat)) (by omega) (by omega);have hu64 : IntKind.u64.wrap (x : Int) = x := by
          have : ∀ x : Nat, x < 256 → IntKind.u64.wrap (x : Int) = x := by decide +kernel
          exact this x (by omega)
         have hand := Zwq (a := x) (b := x - 1) (by omega) (by omega);have hx1' : ((x : Int) - 1) = ((x - 1 : Nat) : Int) := by omega
         refine kw1 kO (kc7 hx1 hkl hu64 hq hw @hx1' hand) (kc1 htz) ?_;refine ⟨(x &&& (x - 1), y + c v (tz x)), ?_, kN kc0 [], ?_⟩
         ·dsimp only;exact ⟨by omega, by omega⟩
         ·exact hlt2
     ·rw [if_neg hbit] at hb;have hok : ZdC n fm (k + 1) v = false := by rw [ZdC]; simp [hbit]
      rw [hok] at hsucc;refine kw1 kO (kc4 hx1 hkl hfv hb) kc0 ?_;refine ⟨v + 1, ?_, eL [] _ _ (by refine ⟨?_, ?_⟩ <;> (repeat' first | exact fmn | refine fmc ⟨(by first | rfl | (simp (disch := omega) only [go_sem, simprocAttr, inL, hsucc, if_neg Bool.false_ne_true]; first | done | omega | (congr 1; done))), ?_⟩); done), ?_⟩
      ·omega
      ·omega
    ·have : v = n := by omega
     subst this;refine kw1 kO (kc1 hx1) kc0 ?_;refine ⟨k + 1, ?_, kN (kc1 @Zx5) [], ?_⟩
     ·omega
     ·omega
  ·have : k + 1 = L := by omega
   have hlg := ZwM n c fm (L := L) (k := k) (Nat.le_refl k);have e1 : (L : Int) - 1 = k := by omega
   have e2 : ZdO n c fm = Zcq n c fm k := by rw [ZdO]; congr 1; omega
   rw [e2];refine kw1 kO (kc3 hpl e1 hlg) kc0 ?_;exact rfl
end Go.Proofs.YtjjbhjnpeenbkaaGreatDoor.Cyc
namespace Go.Proofs.YtjjbhjnpeenbkaaGreatDoor.Cyc
open Go Go.PS Go.Proofs
open Go.Cy (NA InN atN ZdO cnt ind ZbG ZeH Zcb Zbs Zdu)
set_option maxRecDepth 100000
attribute [local irreducible] Zab wpG Zaa Zaf

def castA (l : List NA) : List Arc := l.map fun a => ((a.1 : Int), (a.2 : Int))
theorem castA_len (l : List NA) : (castA l).length = l.length := by simp [castA]
theorem castA_get {l : List NA} {k : Nat} {a : NA} (h : l[k]? = some a) : (castA l)[k]? = some ((a.1 : Int), (a.2 : Int)) := by simp [castA, h]
theorem Zmi (objs : Nat → Ob) (k : Nat) (c : Nat → Nat → Nat) (f : PV) : (Za6 c f).flatMap (PV.refs objs k) = PV.refs objs k f := by
 have h : ∀ l : List Nat, (l.map (fun i => PV.int (c (i / 8) (i % 8)))).flatMap (PV.refs objs k) = [] := by
  intro l
  induction l with
  | nil => rfl
  | cons a l ih => rw [List.map_cons, List.flatMap_cons, ih]; cases k <;> rfl
 rw [Za6, List.flatMap_append, h];simp
theorem Zmu (g : Nat → Nat) (c : Nat → Nat → Nat) (f : PV) : (Za6 c f).map (PV.ren g) = Za6 c (f.ren g) := by
 rw [Za6, Za6, List.map_append, List.map_map]; rfl
theorem ZuV (n : PV) (c c' : Nat → Nat → Nat) (f : PV) {u v : Nat} (hu : u < 8) (hv : v < 8) (h : ∀ i j, i < 8 → j < 8 → c' i j = if i = u ∧ j = v then c u v + 1 else c i j) :
  ZbF (n :: Za6 c f) (1 + u * 8 + v) [.int ((c u v : Int) + 1)] = n :: Za6 c' f := by
 have e : ZbF (n :: Za6 c f) (1 + u * 8 + v) [.int ((c u v : Int) + 1)] = n :: ZbF (Za6 c f) (u * 8 + v) [.int ((c u v : Int) + 1)] := by
  rw [ZbF, ZbF, show 1 + u * 8 + v = (u * 8 + v) + 1 by omega, List.take_succ_cons];simp only [List.length_cons, List.length_nil, Nat.zero_add, List.cons_append];rw [show u * 8 + v + 1 + 1 = (u * 8 + v + 1) + 1 from rfl, List.drop_succ_cons]
 rw [e]
 congr 1
 refine List.ext_getElem? fun k => ?_
 rw [Zie _ _ _ (by simp [Zh2]; omega)];simp only [List.length_cons, List.length_nil, Nat.zero_add];rcases Nat.lt_or_ge k 64 with hk | hk
 ·have hg : ∀ d : Nat → Nat → Nat, (Za6 d f)[k]? = some (.int (d (k / 8) (k % 8))) := fun d => by
   rw [Za6, List.getElem?_append_left (by simp; omega), List.getElem?_map, List.getElem?_range hk]; rfl
  rw [hg, hg, h (k / 8) (k % 8) (by omega) (by omega)];by_cases hc : k = u * 8 + v
  ·subst hc;rw [if_neg (by omega), if_pos (by omega), if_pos (by omega)];simp
  ·rw [if_neg (show ¬ (k / 8 = u ∧ k % 8 = v) by omega)];split
   ·rfl
   ·rw [if_neg (by omega)]
 ·rw [if_neg (by omega), if_neg (by omega)];have hg : ∀ d : Nat → Nat → Nat, (Za6 d f)[k]? = [f][k - 64]? := fun d => by
   rw [Za6, List.getElem?_append_right (by simp; omega)]; simp
  rw [hg, hg]
theorem Zop (n : PV) (c : Nat → Nat → Nat) (f f' : PV) : ZbF (n :: Za6 c f) 65 [f'] = n :: Za6 c f' := by
 have h : (List.map (fun i => PV.int (c (i / 8) (i % 8))) (List.range 64)).length = 64 := by simp
 rw [ZbF, Za6, show 65 = 64 + 1 from rfl, List.take_succ_cons, List.take_left' h];simp only [List.length_cons, List.length_nil, Nat.zero_add];rw [List.drop_eq_nil_of_le (by simp)];simp [Za6]
theorem Zov (l : List NA) (a : NA) (u v : Nat) : cnt (l ++ [a]) u v = cnt l u v + Go.Cy.ind a u v := by
 have := Go.Cy.cnt_cons a [] u v;simp only [cnt, List.filter_append, List.length_append, List.filter_nil, List.length_nil] at this ⊢;omega
theorem ZpU (l : List NA) (u v : Nat) : cnt l u v ≤ l.length := List.length_filter_le _ _
theorem ZpM {fm : List Nat} {v u f : Nat} (h : fm[v]? = some f) : (fm.map Zaw).set v (.int ((f ||| 2 ^ u : Nat) : Int)) = (ZbG fm v u).map Zaw := by
 rw [ZbG, List.map_set, atN, h]; rfl
theorem Zkp (l : List Nat) : ∀ d, d ∈ l.map Zaw → d.cells.length = 1 := Zgy Zaw 1 (fun _ => rfl) l
theorem ZfO (x : Int) : ∀ d, d ∈ [D.int x] → d.cells.length = 1 := by intro d hd; rw [List.mem_singleton] at hd; subst hd; rfl
def ZgS (g : Gr) : List Nat × Int := if gOk g then (if 8 < g.1 then ([], 2) else (Zdu g.1.toNat (g.2.map fun a => (a.1.toNat, a.2.toNat)), 0)) else ([], 1)
theorem Zty (n : Nat) (l : List NA) (h : gOk ((n : Int), castA l) = true) (hi : InN n l) (hll : l.length ≤ 256) (h8 : n ≤ 8) : Zaa Tryz.prog 156 [gD ((n : Int), castA l)] (.tup [Zcc (Zdu n l), .int 0]) := by
 have hv : Zaa Tryz.prog 97 [gD ((n : Int), castA l)] (.bool true) := h ▸ ZfA _;have hcl := castA_len l;refine kE Tryz.func156 ?_;intro hat B X w0;refine kw1 kO (kc1 hcl) (kc1 hv) ?_;refine Zai (fun (k : Nat) => k ≤ l.length) (fun k => [(1, .ptr 1 0 0 0), (4, .ptr 26 0 0 0), (28, .d (Zak (castA l))), (29, .int l.length), (30, .int k)]) (fun k => [(1, .cells [.int n, .d (Zak (castA l))]), (26, .cells (.int n :: Za6 (cnt (l.take k)) (.ref 24 1 0 n n))), (24, .row 1 ((List.replicate n 0).map Zaw))]) (fun k => l.length - k) 0 ?_ ?_ ?_
 ·exact Nat.zero_le _
 ·exact kN (kc1 @List.map_replicate.{0,0}) []
 ·intro k hk;rcases Nat.lt_or_ge k l.length with hlt | hge
  ·obtain ⟨a, ha⟩ := Zad hlt;have hp := castA_get ha;have hin := hi a (List.mem_of_getElem? ha);have htk : l.take (k + 1) = l.take k ++ [a] := ZaD ha;by_cases c : a.1 = a.2
   ·have e : cnt (l.take (k + 1)) = cnt (l.take k) := by
     funext u v
     rw [htk, Zov, Go.Cy.ind, if_neg (fun h => h.1 c)]; rfl
    have c' : (a.1 : Int) = a.2 := by omega
    refine kw1 kO (kc3 hp hcl @c') kc0 ?_;refine ⟨k + 1, ?_, kN (kc1 e) [], ?_⟩
    ·omega
    ·omega
   ·have c' : ¬ (a.1 : Int) = a.2 := by omega
    obtain ⟨q, hq⟩ := Zoc (.int n) (cnt (l.take k)) (.ref 24 1 0 n n) (show a.1 < 8 by omega) (show a.2 < 8 by omega);have hle := ZpU (l.take k) a.1 a.2;rw [List.length_take] at hle;have hw := Zme (x := (cnt (l.take k) a.1 a.2 : Int) + 1) (by omega) (by omega);have hs := ZuV (.int n) (cnt (l.take k)) (cnt (l.take (k + 1))) (.ref 24 1 0 n n) (show a.1 < 8 by omega) (show a.2 < 8 by omega) (fun i j _ _ => by
     rw [htk, Zov, Go.Cy.ind];by_cases c2 : i = a.1 ∧ j = a.2
     ·rw [if_pos c2, if_pos ⟨c, c2.1.symm, c2.2.symm⟩, c2.1, c2.2]
     ·rw [if_neg c2, if_neg (fun h => c2 ⟨h.2.1.symm, h.2.2.symm⟩)]; rfl)
    have hxl : (PV.int n :: Za6 (cnt (l.take k)) (.ref 24 1 0 n n)).length = 66 := by rw [List.length_cons, Zh2]
    refine kw1 kO (kc7 hp hcl @c' hq hw hs @Zh2) kc0 ?_;refine ⟨k + 1, ?_, kN kc0 [], ?_⟩
    ·omega
    ·omega
  ·have hk : k = l.length := by omega
   subst hk;rw [List.take_length];have hrn : (List.replicate n 0).length = n := List.length_replicate;have hc256 : ∀ u v, cnt l u v ≤ 256 := fun u v => Nat.le_trans (ZpU l u v) hll
   have hdec := Go.Cy.dec_all h8 hi (by omega : l.length < 1048576);have hl0 := ZqA n (cnt l) (List.replicate n 0) h8 hc256 hrn (fun v => by rw [Go.Cy.atN_rep]; exact Go.Cy.pow_pos' n);refine kw1 kO (kc3 hcl @Zmi @List.flatMap_cons.{0,0}) (kc1 (kmc [(1000, 26), (1001, 24)] hl0)) ?_;refine kR kc0 [(900, 24)] [(1, .ptr 1 0 0 0), (4, .ptr 26 0 0 0), (7, .int (Zbs n l)), (8, .nilS), (58, .d (Zak (castA l))), (59, .int l.length), (60, .int (0 : Nat))] [(1, .cells [.int n, .d (Zak (castA l))]), (26, .cells (.int n :: Za6 (cnt l) (.ref 900 1 0 n n))), (900, .row 1 ((List.replicate n 0).map Zaw))] ?_;refine Zav _ (ZdU 8 901 1 rfl rfl) ?_;refine Zai (fun (k : Nat) => k ≤ l.length) (fun k => [(1, .ptr 1 0 0 0), (4, .ptr 26 0 0 0), (7, .int (Zbs n l)), (8, .ref 901 1 0 (Zcb n (cnt l) (Zbs n l) l k).2.length (Zcb n (cnt l) (Zbs n l) l k).2.length), (58, .d (Zak (castA l))), (59, .int l.length), (60, .int k)]) (fun k => [(1, .cells [.int n, .d (Zak (castA l))]), (26, .cells (.int n :: Za6 (cnt l) (.ref 900 1 0 n n))), (900, .row 1 ((Zcb n (cnt l) (Zbs n l) l k).1.map Zaw)), (901, .row 1 ((Zcb n (cnt l) (Zbs n l) l k).2.map Zaw))]) (fun k => l.length - k) 0 ?_ ?_ ?_
   ·exact Nat.zero_le _
   ·exact kN kc0 []
   ·intro k hk;rcases Nat.lt_or_ge k l.length with hlt | hge
    ·obtain ⟨a, ha⟩ := Zad hlt;have hp := castA_get ha;have hin := hi a (List.mem_of_getElem? ha);have hD := hdec k hk;have hDs : Zcb n (cnt l) (Zbs n l) l (k + 1) = ZeH n (cnt l) (Zbs n l) k a (Zcb n (cnt l) (Zbs n l) l k) := by rw [Zcb, ha]
     revert hD hDs;generalize Zcb n (cnt l) (Zbs n l) l k = st;obtain ⟨fm, Dk⟩ := st;intro hD hDs;dsimp only at hD ⊢;have hfl := hD.len;have hDl : Dk.length ≤ k := Go.Cy.nd_le (hD.asc.imp fun h => Nat.ne_of_lt h) hD.below;by_cases c : a.1 = a.2
     ·rw [ZeH, if_pos c] at hDs;have c' : (a.1 : Int) = a.2 := by omega
      refine kw1 kO (kc3 hp hcl @c') kc0 ?_;refine ⟨k + 1, ?_, kN (kc1 hDs) [], ?_⟩
      ·omega
      ·omega
     ·have c' : ¬ (a.1 : Int) = a.2 := by omega
      rw [ZeH, if_neg c] at hDs;have hv1 : a.1 < fm.length := by omega
      have hv2 : a.2 < fm.length := by omega
      obtain ⟨f1, hf1⟩ := Zad hv1;obtain ⟨f2, hf2⟩ := Zad hv2;have hx1 := ZkT (cnt l) (.ref 900 1 0 n n);have hx2 := ZkT (cnt l) (.ref 77 1 0 n n);have hs1 := Zop (.int n) (cnt l) (.ref 900 1 0 n n) (.ref 77 1 0 n n);have hs2 := Zop (.int n) (cnt l) (.ref 77 1 0 n n) (.ref 900 1 0 n n);have hmf : (fm.map Zaw).length = n := by rw [List.length_map, hfl]
      have hmt : (fm.map Zaw).take n = fm.map Zaw := List.take_of_length_le (by omega);have hfa1 : atN fm a.1 = f1 := by rw [atN, hf1]; rfl
      have hfa2 : atN fm a.2 = f2 := by rw [atN, hf2]; rfl
      have hb1 := Nat.lt_of_lt_of_le (hfa1 ▸ hD.lt a.1) (Go.Cy.pow_le8 h8);have hb2 := Nat.lt_of_lt_of_le (hfa2 ▸ hD.lt a.2) (Go.Cy.pow_le8 h8);have hq1 := ZpM (u := a.2) hf1;have hq2 := ZpM (u := a.1) hf2;obtain ⟨p1, hp1⟩ : ∃ p, p = 2 ^ a.1 := ⟨_, rfl⟩;obtain ⟨p2, hp2⟩ : ∃ p, p = 2 ^ a.2 := ⟨_, rfl⟩;have hb3 : p1 < 256 := by rw [hp1]; exact Nat.pow_lt_pow_right (n := 8) (by decide) (by omega)
      have hb4 : p2 < 256 := by rw [hp2]; exact Nat.pow_lt_pow_right (n := 8) (by decide) (by omega)
      have e1 := Zjl a.1 (by omega);have e2 := Zjl a.2 (by omega);rw [← hp1] at e1 hq2;rw [← hp2] at e2 hq1;have o1 := ZoJ (a := f1) (b := p2) (by omega) (by omega);have o2 := ZoJ (a := f2) (b := p1) (by omega) (by omega);have hl1 := ZqA n (cnt l) (ZbG fm a.1 a.2) h8 hc256 (by rw [ZbG, List.length_set, hfl]) (Go.Cy.orAt_lt hv1 hin.2 hD.lt);by_cases c2 : ZdO n (cnt l) (ZbG fm a.1 a.2) = Zbs n l
      ·rw [if_pos c2] at hDs;have c2' : ((ZdO n (cnt l) (ZbG fm a.1 a.2) : Nat) : Int) = Zbs n l := by rw [c2]
       repeat' first | refine ZaK rfl ?_ | refine ZaF ?_ | refine wR ?_ | refine rcM [(1000, 26), (1001, 77)] (hl1) rfl ?_ | (refine ZaM rfl rfl (fun hc => ?_) (fun hc => ?_) <;> try simp only [hcL] at hc) | (refine ZaL _ rfl rfl (fun hc => ?_) (fun hc => ?_) <;> (try simp only [hcL] at hc) <;> try omega) | simp (disch := omega) only [go_sem, simprocAttr, hp, hcl, c', hx1, hx2, hs1, Zh2, hmf, hmt, List.length_replicate, hfl, hf1, e2, o1, hq1, Zmi, List.flatMap_cons, c2', roomy, Zat] | (first | exact Zkp fm | exact ZfO _) | apply And.intro | omega | decide +kernel
       refine ⟨k + 1, ?_, eL [(900, 77), (901, 106)] _ _ (by refine ⟨?_, ?_⟩ <;> (repeat' first | exact fmn | refine fmc ⟨(by first | rfl | (simp (disch := omega) only [go_sem, simprocAttr, inL, hDs, List.length_append, List.length_singleton, List.map_append, List.map_cons, List.map_nil, Ob.ren, Zmu, List.map_cons]; first | done | omega | (congr 1; done))), ?_⟩); done), ?_⟩
       ·omega
       ·omega
      ·rw [if_neg c2] at hDs;have c2' : ¬ ((ZdO n (cnt l) (ZbG fm a.1 a.2) : Nat) : Int) = Zbs n l := by omega
       repeat' first | refine ZaK rfl ?_ | refine ZaF ?_ | refine wR ?_ | refine rcM [(1000, 26), (1001, 77)] (hl1) rfl ?_ | (refine ZaM rfl rfl (fun hc => ?_) (fun hc => ?_) <;> try simp only [hcL] at hc) | (refine ZaL _ rfl rfl (fun hc => ?_) (fun hc => ?_) <;> (try simp only [hcL] at hc) <;> try omega) | simp (disch := omega) only [go_sem, simprocAttr, hp, hcl, c', hx1, hx2, hs1, hs2, Zh2, hmf, hmt, List.length_replicate, hfl, hf1, hf2, e1, e2, o1, o2, hq1, hq2, Zmi, Zmu, List.flatMap_cons, c2'] | exact Zkp fm | apply And.intro | omega | decide +kernel
       refine ⟨k + 1, ?_, eL [] _ _ (by refine ⟨?_, ?_⟩ <;> (repeat' first | exact fmn | refine fmc ⟨(by first | rfl | (simp (disch := omega) only [go_sem, simprocAttr, inL, hDs, Ob.ren, Zmu, List.map_cons]; first | done | omega | (congr 1; done))), ?_⟩); done), ?_⟩
       ·omega
       ·omega
    ·have hk : k = l.length := by omega
     subst hk;refine kw1 kO kc0 kc0 ?_;exact ⟨_, rfl, Zdb (o := 901) rfl rfl (by simp) (by rw [List.take_of_length_le (by simp)]; rfl), Zah rfl, trivial⟩
end Go.Proofs.YtjjbhjnpeenbkaaGreatDoor.Cyc
namespace Go.Proofs.YtjjbhjnpeenbkaaGreatDoor.Cyc
open Go Go.PS Go.Proofs
open Go.Hp (Zjs upN ZmM kid Zq0 Znu ZrK ZkB)
set_option maxRecDepth 100000
attribute [local irreducible] Zab wpG Zaa Zaf

end Go.Proofs.YtjjbhjnpeenbkaaGreatDoor.Cyc
namespace Go.Proofs.YtjjbhjnpeenbkaaGreatDoor.Cyc
open Go Go.PS Go.Proofs
open Go.Cy (NA InN ZlS)
set_option maxRecDepth 100000
attribute [local irreducible] Zab wpG Zaa Zaf

end Go.Proofs.YtjjbhjnpeenbkaaGreatDoor.Cyc
namespace Go.Proofs.YtjjbhjnpeenbkaaGreatDoor.Cyc
open Go Go.PS Go.Proofs
open Go.Cy (NA InN ZlS Acy inC hds Kahn KahnI)
open Go.Hp (Zq0 Znu ZrK)
set_option maxRecDepth 100000
attribute [local irreducible] Zab wpG Zaa Zaf

end Go.Proofs.YtjjbhjnpeenbkaaGreatDoor.Cyc
namespace Go.Proofs.YtjjbhjnpeenbkaaGreatDoor.Cyc
open Go Go.PS Go.Proofs
open Go.Cy (NA InN ZlS Acy Zhs Brk Zcn Asc)
set_option maxRecDepth 100000
attribute [local irreducible] Zab wpG Zaa Zaf

abbrev Zfa (s : List Nat) : List Int := s.map fun x : Nat => (x : Int)
theorem ZzN {s : List Nat} {i x : Nat} (h : s[i]? = some x) : (Zfa s)[i]? = some (x : Int) := by simp [h]
theorem Zxf (s : List Nat) : Zac (Zfa s) = Zcc s := by simp [Zac, Zcc, Function.comp]
theorem ZsM (l : List NA) (t : List Nat) : ZeC (castA l) (Zfa t) = castA (Zcn l t) := by
 refine List.ext_getElem? fun k => ?_
 rcases Nat.lt_or_ge k l.length with h | h
 ·obtain ⟨a, ha⟩ := Zad h;rw [ZiR (castA_get ha), castA_get (Go.Cy.flipN_get ha)];have : Zeh (Zfa t) (k : Int) = decide (k ∈ t) := by
   rw [Bool.eq_iff_iff];simp only [Zeh, List.any_eq_true, decide_eq_true_eq, List.mem_map];constructor
   ·rintro ⟨x, ⟨y, hy, rfl⟩, h2⟩;have : y = k := by omega
    exact this ▸ hy
   ·intro hk; exact ⟨_, ⟨k, hk, rfl⟩, rfl⟩
  rw [this];by_cases c : k ∈ t
  ·simp [c, Zjo]
  ·simp [c]
 ·rw [List.getElem?_eq_none (by rw [ZgA, castA_len]; exact h), List.getElem?_eq_none (by rw [castA_len, Go.Cy.flipN_len]; exact h)]
theorem Zuj {l : List NA} {t : List Nat} (h : Zhs l t) : Zfw (Zfa t) l.length = 0 := by
 have key : ∀ k, k ≤ t.length → Zdg (ZfH (Zfa t) l.length) k = 0 := by
  intro k
  induction k with
  | zero => intro _; rfl
  | succ k ih =>
   intro hk;refine Zn3 (ih (by omega)) ?_;obtain ⟨x, hx⟩ := Zad (show k < t.length by omega);obtain ⟨a, ha, hn⟩ := h.2 x (List.mem_of_getElem? hx);have hxl := (List.getElem?_eq_some_iff.1 ha).1;simp only [ZfH, ZzN hx];rw [if_neg (by omega), if_neg];simp only [Zeh, List.any_eq_true, decide_eq_true_eq, not_exists, not_and];rintro y hy rfl;rw [Zfa, ← List.map_take] at hy;obtain ⟨z, hz, he⟩ := List.mem_map.1 hy;obtain ⟨i, hi⟩ := List.mem_iff_getElem?.1 hz;rw [List.getElem?_take] at hi;split at hi
   ·rename_i hik;have hi2 := List.getElem?_eq_some_iff.1 hi;have hx2 := List.getElem?_eq_some_iff.1 hx;have := (List.pairwise_iff_getElem.1 h.1) i k hi2.1 hx2.1 hik;rw [hi2.2, hx2.2] at this; omega
   ·cases hi
 have := key t.length (Nat.le_refl _);rw [Zfw, List.length_map]; exact this
end Go.Proofs.YtjjbhjnpeenbkaaGreatDoor.Cyc
namespace Go.Proofs.YtjjbhjnpeenbkaaGreatDoor.Cyc
open Go Go.PS Go.Proofs
open Go.Cy (NA InN cnt ZeH Zcb Zbs Zdu Zcn Zhs Asc)
set_option maxRecDepth 100000
attribute [local irreducible] Zab wpG Zaa Zaf

theorem ZpJ (n : Nat) (c : Nat → Nat → Nat) (z : Nat) (l : List NA) : ∀ k, k ≤ l.length → Asc (Zcb n c z l k).2 ∧ ∀ i, i ∈ (Zcb n c z l k).2 → i < k ∧ ∃ a, l[i]? = some a ∧ a.1 ≠ a.2 := by
 intro k
 induction k with
 | zero => intro _; exact ⟨List.Pairwise.nil, fun i hi => by cases hi⟩
 | succ k ih =>
  intro hk;obtain ⟨h1, h2⟩ := ih (by omega);obtain ⟨a, ha⟩ := Zad (show k < l.length by omega);rw [Zcb, ha];dsimp only;rw [ZeH];have h3 : ∀ i, i ∈ (Zcb n c z l k).2 → i < k + 1 ∧ ∃ a, l[i]? = some a ∧ a.1 ≠ a.2 := fun i hi => ⟨by have := (h2 i hi).1; omega, (h2 i hi).2⟩
  by_cases e : a.1 = a.2
  ·rw [if_pos e]; exact ⟨h1, h3⟩
  ·rw [if_neg e];split
   ·refine ⟨?_, fun i hi => ?_⟩
    ·refine List.pairwise_append.2 ⟨h1, List.pairwise_singleton _ _, fun x hx y hy => ?_⟩;rw [List.mem_singleton] at hy;have := (h2 x hx).1;omega
    ·rcases List.mem_append.1 hi with hi | hi
     ·exact h3 i hi
     ·rw [List.mem_singleton] at hi; subst hi; exact ⟨by omega, a, ha, e⟩
   ·exact ⟨h1, h3⟩
theorem Zur (n : Nat) (l : List NA) : Zhs l (Zdu n l) :=
 ⟨(ZpJ n (cnt l) (Zbs n l) l l.length (Nat.le_refl _)).1, fun i hi => ((ZpJ n (cnt l) (Zbs n l) l l.length (Nat.le_refl _)).2 i hi).2⟩
theorem Zuq {n : Nat} {l : List NA} {t : List Nat} (h : gOk ((n : Int), castA l) = true) (ht : Zhs l t) : Zaa Tryz.prog 158 [gD ((n : Int), castA l), Zcc t] (.tup [gD ((n : Int), castA (Zcn l t)), .int 0]) := by
 have hF := ZuI ((n : Int), castA l) (Zfa t);have eF : ZeJ ((n : Int), castA l) (Zfa t) = (((n : Int), castA (Zcn l t)), 0) := by
  have h2 := Zuj ht;rw [ZeJ, if_pos h];simp only [castA_len, h2, if_true, ZsM]
 rw [eF, Zxf] at hF;exact hF
theorem Break8 (n : Nat) (l : List NA) (h : gOk ((n : Int), castA l) = true) (hi : InN n l) (hll : l.length ≤ 256) (h8 : n ≤ 8) : Zaa Tryz.prog 94 [gD ((n : Int), castA l)] (.tup [Zcc (Zdu n l), gD ((n : Int), castA (Zcn l (Zdu n l)))]) := by
 have hF := Zuq h (Zur n l);have hl := Zty n l h hi hll h8;refine kE Tryz.func94 ?_;intro hat B X w0;refine kw1 kO kc0 (kc2 hl hF) ?_;refine ⟨_, rfl, ?_, ⟨_, _, _, _, rfl, ?_⟩, trivial⟩
 ·rfl
 ·simp (disch := omega) only [go_sem, simprocAttr]
end Go.Proofs.YtjjbhjnpeenbkaaGreatDoor.Cyc
namespace Go.Proofs.YtjjbhjnpeenbkaaGreatDoor.Gr
open Go Go.PS Go.Proofs Go.Proofs.YtjjbhjnpeenbkaaGreatDoor
set_option maxRecDepth 100000
attribute [local irreducible] Zab wpG Zaa Zaf

structure Opt where
 md : Int
 nsep : Int
 rsep : Int
 mg : Int
 rd : Int
abbrev Zfr (o : Opt) : D := .ag [.int o.md, .int o.nsep, .int o.rsep, .int o.mg, .int o.rd]
def Zgb (m x : Int) : Bool := decide (0 ≤ x) && decide (x ≤ m)
def okO (o : Opt) : Bool := Zgb 4 o.md && (Zgb 1048576 o.nsep && (Zgb 1048576 o.rsep && (Zgb 1048576 o.mg && (Zgb 100 o.rd))))
theorem ZiY (m x : Int) (hm : 0 ≤ m) : decide (x = if m < (if x < 0 then 0 else x) then m else (if x < 0 then 0 else x)) = Zgb m x := by
 rw [Bool.eq_iff_iff];simp only [Zgb, decide_eq_true_eq, Bool.and_eq_true];split <;> split <;> omega
theorem Zm3 (o : Opt) : Zaa Tryz.prog 46 [Zfr o] (.bool (okO o)) := by
 have e1 := ZiY 4 o.md (by decide);have e2 := ZiY 1048576 o.nsep (by decide);have e3 := ZiY 1048576 o.rsep (by decide);have e4 := ZiY 1048576 o.mg (by decide);have e5 := ZiY 100 o.rd (by decide);refine kE Tryz.func46 ?_;intro hat B X w0;refine kw1 kO (kc5 e1 e2 e3 e4 e5) kc0 ?_;exact Zaj (by simp only [okO, Bool.and_true])
def Zg7 (g : Gph) : Gr := ((g.ns.length : Int), g.es.map fun e => (e.fr, e.to))
def ZdR (g : Gph) (k : Nat) : List Arc := (g.es.take k).map fun e => (e.fr, e.to)
theorem Zsj {g : Gph} {k : Nat} {e : Ed} (h : g.es[k]? = some e) : ZdR g (k + 1) = ZdR g k ++ [(e.fr, e.to)] := by
 rw [ZdR, ZdR, ZaD h, List.map_append]; rfl
theorem ZuT (g : Gph) : ZdR g g.es.length = (Zg7 g).2 := by rw [ZdR, List.take_length, Zg7]
theorem Zxu (g : Gph) {k : Nat} (h : k ≤ g.es.length) : (ZdR g k).length = k := by rw [ZdR, List.length_map, List.length_take]; omega
theorem ZvJ (g : Gph) (hl : g.es.length ≤ 1000000) : Zaa Tryz.prog 95 [ZbV g] (gD (Zg7 g)) := by
 refine kE Tryz.func95 ?_;intro hat B X w0;refine kw1 kO kc0 kc0 ?_;refine Zav _ (Zcs 3 1 901 2 rfl rfl rfl) ?_;refine Zai (fun (k : Nat) => k ≤ g.es.length) (fun k => [(2, .ptr 2 0 0 0), (3, .ptr 3 0 0 0), (11, .d (.sl (g.es.map edD))), (12, .int g.es.length), (13, .int k)]) (fun k => [(2, .cells [.int 0, .nilS]), (3, .cells [.int g.ns.length, .ref 901 2 0 (ZdR g k).length (ZdR g k).length]), (901, .row 2 ((ZdR g k).map ZaY))]) (fun k => g.es.length - k) 0 ?_ ?_ ?_
 ·exact Nat.zero_le _
 ·exact kN kc0 []
 ·intro k hk;have hln := Zxu g hk;rcases Nat.lt_or_ge k g.es.length with hlt | hge
  ·obtain ⟨e, he⟩ := Zad hlt;have hs := Zsj he;have htk : ((ZdR g k).map ZaY).take k = (ZdR g k).map ZaY := List.take_of_length_le (by simp [hln]);refine kw1 kO (kc3 he htk hln) kc0 ?_;refine ⟨k + 1, ?_, eL [(901, 25)] _ _ (by refine ⟨?_, ?_⟩ <;> (repeat' first | exact fmn | refine fmc ⟨(by first | rfl | (simp (disch := omega) only [go_sem, simprocAttr, inL, hs, List.length_append, List.length_singleton, List.map_append, List.map_cons, List.map_nil, hln]; first | done | omega | (congr 1; done))), ?_⟩); done), ?_⟩
   ·exact hlt
   ·omega
  ·obtain rfl : k = g.es.length := by omega
   refine kw1 kO kc0 kc0 ?_;refine ⟨_, _, _, _, rfl, ?_⟩;simp (disch := omega) only [go_sem, simprocAttr];rw [ZuT, Zat];rfl
end Go.Proofs.YtjjbhjnpeenbkaaGreatDoor.Gr
namespace Go.Proofs.YtjjbhjnpeenbkaaGreatDoor.Gr
open Go Go.PS Go.Proofs Go.Proofs.YtjjbhjnpeenbkaaGreatDoor
open Go.Cy (NA InN Zdu Zcn)
set_option maxRecDepth 100000
attribute [local irreducible] Zab wpG Zaa Zaf

def naF (g : Gph) : List NA := g.es.map fun e => (e.fr.toNat, e.to.toNat)
def ZbH (g : Gph) : List NA := Zcn (naF g) (Zdu g.ns.length (naF g))
theorem Zhx (g : Gph) : (ZbH g).length = g.es.length := by rw [ZbH, Go.Cy.flipN_len, naF, List.length_map]
structure ZbD (g : Gph) : Prop where
 md : Mod g
 ok : Zdt g = 0
 n8 : g.ns.length ≤ 8
theorem Zge {g : Gph} (h : Zdt g = 0) : g.es.length ≤ 256 ∧ fe (ZfG g) g.ns.length = 0 ∧ fe (Zgw g) g.es.length = 0 := by
 rw [Zdt] at h;split at h
 ·cases h
 ·split at h
  ·cases h
  ·split at h
   ·contradiction
   ·rename_i h1;split at h
    ·contradiction
    ·exact ⟨by omega, by omega, h⟩
theorem Zlx {g : Gph} (h : Zdt g = 0) {k : Nat} {e : Ed} (he : g.es[k]? = some e) : 0 ≤ e.fr ∧ e.fr < g.ns.length ∧ 0 ≤ e.to ∧ e.to < g.ns.length ∧ 1 ≤ e.wt ∧ e.wt ≤ 1000 ∧ 1 ≤ e.ln ∧ e.ln ≤ 64 := by
 have h1 := Zof (Zge h).2.2 k (List.getElem?_eq_some_iff.1 he).1;rw [Zgw, he] at h1;dsimp only at h1;rw [Zhp] at h1;split at h1
 ·cases h1
 ·split at h1
  ·contradiction
  ·split at h1
   ·cases h1
   ·omega
theorem Zsc {g : Gph} (h : Zdt g = 0) : Zg7 g = ((g.ns.length : Int), Cyc.castA (naF g)) := by
 rw [Zg7, Cyc.castA, naF, List.map_map]
 congr 1
 refine List.map_congr_left fun e he => ?_
 obtain ⟨k, hk⟩ := List.mem_iff_getElem?.1 he;obtain ⟨h1, _, h2, _⟩ := Zlx h hk;simp only [Function.comp];rw [show ((e.fr.toNat : Nat) : Int) = e.fr by omega, show ((e.to.toNat : Nat) : Int) = e.to by omega]
theorem Zld {g : Gph} (h : Zdt g = 0) : InN g.ns.length (naF g) := by
 intro a ha;obtain ⟨e, he, rfl⟩ := List.mem_map.1 ha;obtain ⟨k, hk⟩ := List.mem_iff_getElem?.1 he;obtain ⟨h1, h2, h3, h4, _⟩ := Zlx h hk;dsimp only; omega
theorem Zvf {g : Gph} (hs : ZbD g) : gOk ((g.ns.length : Int), Cyc.castA (naF g)) = true := by
 have h1 := (Zge hs.ok).1;have h2 := hs.n8;simp only [gOk, Bool.and_eq_true, decide_eq_true_eq, Bool.not_eq_true', List.any_eq_false];refine ⟨⟨by omega, by omega, by rw [Cyc.castA_len, naF, List.length_map]; omega⟩, ?_⟩;intro a ha;obtain ⟨b, hb, rfl⟩ := List.mem_map.1 ha;have := Zld hs.ok b hb;simp [Zfs]; omega
theorem Zr1 {g : Gph} (h : Zdt g = 0) : InN g.ns.length (ZbH g) := by
 intro a ha;obtain ⟨k, b, hk, rfl⟩ := Go.Cy.flipN_mem ha;have := Zld h b (List.mem_of_getElem? hk);split
 ·dsimp only; omega
 ·exact this
theorem ZyQ {g : Gph} (hs : ZbD g) : ∃ s : D, Zaa Tryz.prog 94 [gD (Zg7 g)] (.tup [s, gD ((g.ns.length : Int), Cyc.castA (ZbH g))]) := by
 have h := Cyc.Break8 g.ns.length (naF g) (Zvf hs) (Zld hs.ok) (by rw [naF, List.length_map]; exact (Zge hs.ok).1) hs.n8;rw [Zsc hs.ok];exact ⟨_, h⟩
def Ze9 (l : List NA) (i : Nat) : Bool := match l[i]? with
 | some a => decide (a.1 ≠ a.2)
 | none => false
def ksF (l : List NA) (k : Nat) : List Nat := (List.range k).filter (Ze9 l)
def ZiC (l : List NA) (i : Nat) : Arc := match l[i]? with
 | some a => ((a.1 : Int), (a.2 : Int))
 | none => (0, 0)
def Zbl (l : List NA) (k : Nat) : List Arc := (ksF l k).map (ZiC l)
def Zbn (l : List NA) (k : Nat) : List Int := (ksF l k).map fun (i : Nat) => (i : Int)
theorem ZjR {l : List NA} {k : Nat} : ksF l (k + 1) = ksF l k ++ if Ze9 l k then [k] else [] := by
 rw [ksF, ksF, List.range_succ, List.filter_append];cases h : Ze9 l k <;> simp [h]
theorem Zg9 (l : List NA) (k : Nat) : (ksF l k).length ≤ k := by
 have := List.length_filter_le (Ze9 l) (List.range k);rw [List.length_range] at this; exact this
theorem Zjx {l : List NA} {k i : Nat} (h : i ∈ ksF l k) : i < k ∧ Ze9 l i = true := by
 rw [ksF, List.mem_filter, List.mem_range] at h; exact h
abbrev Zk4 (n : Nat) (l : List NA) : D := .ag [.int n, Zak (Zbl l l.length), Zac (Zbn l l.length)]
theorem ZlZ {g : Gph} (hs : ZbD g) : Zaa Tryz.prog 47 [ZbV g] (Zk4 g.ns.length (ZbH g)) := by
 obtain ⟨h256, _, _⟩ := Zge hs.ok;have h1 := ZvJ g (by omega);obtain ⟨s, h2⟩ := ZyQ hs;have hbl := Zhx g;generalize ZbH g = l at *;have hcl : (Cyc.castA l).length = l.length := Cyc.castA_len l;refine kE Tryz.func47 ?_;intro hat B X w0;refine kw1 kO (kc1 hcl) (kc2 h1 h2) ?_;refine Zav _ (Zcs 5 1 901 2 rfl rfl rfl) ?_;refine Zav _ (Zcs 5 2 902 1 rfl rfl rfl) ?_;refine Zai (fun (k : Nat) => k ≤ l.length) (fun k => [(2, .ptr 2 0 0 0), (5, .ptr 5 0 0 0), (20, .d (Zak (Cyc.castA l))), (21, .int l.length), (22, .int k)]) (fun k => [(2, .cells [.int 0, .nilS, .nilS]), (5, .cells [.int g.ns.length, .ref 901 2 0 (Zbl l k).length (Zbl l k).length, .ref 902 1 0 (Zbn l k).length (Zbn l k).length]), (901, .row 2 ((Zbl l k).map ZaY)), (902, .row 1 ((Zbn l k).map D.int))]) (fun k => l.length - k) 0 ?_ ?_ ?_
 ·exact Nat.zero_le _
 ·exact eL [] _ _ (by refine ⟨?_, ?_⟩ <;> (repeat' first | exact fmn | refine fmc ⟨(by first | rfl | (simp (disch := omega) only [go_sem, simprocAttr, inL, Zbl, Zbn, ksF, List.range_zero, List.filter_nil, List.map_nil, List.length_nil]; first | done | omega | (congr 1; done))), ?_⟩); done)
 ·intro k hk;have hlk := Zg9 l k;have hl1 : (Zbl l k).length ≤ 256 := by rw [Zbl, List.length_map]; omega
  have hl2 : (Zbn l k).length ≤ 256 := by rw [Zbn, List.length_map]; omega
  rcases Nat.lt_or_ge k l.length with hlt | hge
  ·obtain ⟨a, ha⟩ := Zad hlt;have hp : (Cyc.castA l)[k]? = some ((a.1 : Int), (a.2 : Int)) := Cyc.castA_get ha;by_cases c : a.1 = a.2
   ·have c' : (a.1 : Int) = a.2 := by omega
    have hn : Ze9 l k = false := by rw [Ze9, ha]; simp [c]
    have e1 : Zbl l (k + 1) = Zbl l k := by rw [Zbl, Zbl, ZjR, hn]; simp
    have e2 : Zbn l (k + 1) = Zbn l k := by rw [Zbn, Zbn, ZjR, hn]; simp
    refine kw1 kO (kc3 hp hcl @c') kc0 ?_;refine ⟨k + 1, ?_, kN (kc2 e1 e2) [], ?_⟩
    ·exact hlt
    ·omega
   ·have c' : ¬ (a.1 : Int) = a.2 := by omega
    have hn : Ze9 l k = true := by rw [Ze9, ha]; simp [c]
    have e1 : Zbl l (k + 1) = Zbl l k ++ [((a.1 : Int), (a.2 : Int))] := by rw [Zbl, Zbl, ZjR, hn]; simp [ZiC, ha]
    have e2 : Zbn l (k + 1) = Zbn l k ++ [(k : Int)] := by rw [Zbn, Zbn, ZjR, hn]; simp
    refine kw1 kO (kc4 hp hcl @c' @Zat) kc0 ?_;refine ⟨k + 1, ?_, kN (kc7 e1 e2 @List.length_append.{0} @List.length_singleton.{0} @List.map_append.{0,0} @List.map_cons.{0,0} @List.map_nil.{0,0}) [(901, 37), (902, 44)], ?_⟩
    ·exact hlt
    ·omega
  ·obtain rfl : k = l.length := by omega
   refine kw1 kO kc0 kc0 ?_;refine ⟨_, _, _, _, rfl, ?_⟩;simp (disch := omega) only [go_sem, simprocAttr];rw [Zat, Zat]
def Zjb (g : Gph) (l : List NA) (i : Nat) : Sx.Bd := match l[i]?, g.es[i]? with
 | some a, some e => ((a.1 : Int), (a.2 : Int), e.ln, e.wt)
 | _, _ => (0, 0, 0, 0)
def Zbj (g : Gph) (l : List NA) (k : Nat) : List Sx.Bd := ((ksF l l.length).take k).map (Zjb g l)
def ZbZ (g : Gph) : Sx.Net := ((g.ns.length : Int), Zbj g (ZbH g) (ksF (ZbH g) (ZbH g).length).length)
theorem ZhB {g : Gph} {l : List NA} {k : Nat} (h : k ≤ (ksF l l.length).length) : (Zbj g l k).length = k := by
 rw [Zbj, List.length_map, List.length_take]; omega
theorem Zrv {g : Gph} (hs : ZbD g) {r f : List Int} (hS : Sx.SolveOk (ZbZ g) r f) : Zaa Tryz.prog 48 [Zk4 g.ns.length (ZbH g), ZbV g] (.tup [Zac r, Zac f, .int 0]) := by
 obtain ⟨n', hn', hr', hf', hS⟩ := hS;obtain ⟨h256, _, _⟩ := Zge hs.ok;have hbl := Zhx g;simp only [ZbZ] at hn' hf' hS;generalize ZbH g = l at *;have hlk := Zg9 l l.length;have hlb := ZhB (g := g) (l := l) (Nat.le_refl _);rw [hlb] at hf' hS;obtain rfl : n' = g.ns.length := by omega
 have hpl : (Zbl l l.length).length = (ksF l l.length).length := by rw [Zbl, List.length_map]
 have hel : (Zbn l l.length).length = (ksF l l.length).length := by rw [Zbn, List.length_map]
 refine kE Tryz.func48 ?_;intro hat B X w0;refine kw1 kO (kc1 hpl) kc0 ?_;refine Zav _ (Zcs 7 1 901 4 rfl rfl rfl) ?_;refine Zai (fun (k : Nat) => k ≤ (ksF l l.length).length) (fun k => [(2, .ptr 2 0 0 0), (3, .ptr 3 0 0 0), (7, .ptr 7 0 0 0), (17, .d (Zak (Zbl l l.length))), (18, .int (ksF l l.length).length), (19, .int k)]) (fun k => [(2, .cells [.int g.ns.length, .d (Zak (Zbl l l.length)), .d (Zac (Zbn l l.length))]), (3, .cells [.d (Zbf g.nm), .d (.bool g.dir), .d (.sl (g.ns.map ndD)), .d (.sl (g.es.map edD)), .d (.sl (g.cs.map clD))]), (7, .cells [.int g.ns.length, .ref 901 4 0 (Zbj g l k).length (Zbj g l k).length]), (901, .row 4 ((Zbj g l k).map Sx.bdD))]) (fun k => (ksF l l.length).length - k) 0 ?_ ?_ ?_
 ·exact Nat.zero_le _
 ·exact kN (kc4 @Zbj.eq_1 @List.take_zero.{0} @List.map_nil.{0,0} @List.length_nil.{0}) []
 ·intro k hk;have hl1 := ZhB (g := g) hk;rcases Nat.lt_or_ge k (ksF l l.length).length with hlt | hge
  ·obtain ⟨i, hi⟩ := Zad hlt;obtain ⟨q1, q2⟩ := Zjx (List.mem_of_getElem? hi);obtain ⟨a, ha⟩ := Zad q1;obtain ⟨e, he⟩ := Zad (l := g.es) (k := i) (by omega);have p1 : (Zbl l l.length)[k]? = some ((a.1 : Int), (a.2 : Int)) := by rw [Zbl, List.getElem?_map, hi]; simp [ZiC, ha]
   have p2 : (Zbn l l.length)[k]? = some (i : Int) := by rw [Zbn, List.getElem?_map, hi]; rfl
   have e1 : Zbj g l (k + 1) = Zbj g l k ++ [((a.1 : Int), (a.2 : Int), e.ln, e.wt)] := by
    rw [Zbj, Zbj, ZaD hi, List.map_append]; simp [Zjb, ha, he]
   have htk : ((Zbj g l k).map Sx.bdD).take k = (Zbj g l k).map Sx.bdD := List.take_of_length_le (by simp [hl1]);refine kw1 kO (kc7 p1 p2 he hpl hel hl1 htk) kc0 ?_;refine ⟨k + 1, ?_, kN (kc7 e1 @List.length_append.{0} @List.length_singleton.{0} @List.map_append.{0,0} @List.map_cons.{0,0} @List.map_nil.{0,0} hl1) [(901, 45)], ?_⟩
   ·exact hlt
   ·omega
  ·obtain rfl : k = (ksF l l.length).length := by omega
   refine Zav _ (Zc5 901 4 ((Zbj g l (ksF l l.length).length).map Sx.bdD) rfl (ZcR _ rfl) (by decide)) ?_;have htk0 : ((Zbj g l (ksF l l.length).length).map Sx.bdD).take (ksF l l.length).length = (Zbj g l (ksF l l.length).length).map Sx.bdD := List.take_of_length_le (by simp [hl1]);refine kw1 kO (kc3 htk0 @List.drop_zero.{0} hl1) (kc1 (kmc [(2000, 950), (2001, 951)] hS)) ?_;exact ⟨_, rfl, Zdb (o := 950) rfl rfl (by simp [Sx.intsL, hr']) (by rw [List.take_of_length_le (by simp [Sx.intsL, hr'])]), Zdb (o := 951) rfl rfl (by simp [Sx.intsL, hf']) (by rw [List.take_of_length_le (by simp [Sx.intsL, hf'])]), Zah rfl, trivial⟩
theorem Zyx {g : Gph} (hs : ZbD g) {e : Int} (hS : Sx.SolveNo (ZbZ g) e) : Zaa Tryz.prog 48 [Zk4 g.ns.length (ZbH g), ZbV g] (.tup [.sl [], .sl [], .int e]) := by
 unfold Sx.SolveNo at hS;obtain ⟨h256, _, _⟩ := Zge hs.ok;have hbl := Zhx g;simp only [ZbZ] at hS;generalize ZbH g = l at *;have hlk := Zg9 l l.length;have hlb := ZhB (g := g) (l := l) (Nat.le_refl _);have hpl : (Zbl l l.length).length = (ksF l l.length).length := by rw [Zbl, List.length_map]
 have hel : (Zbn l l.length).length = (ksF l l.length).length := by rw [Zbn, List.length_map]
 refine kE Tryz.func48 ?_;intro hat B X w0;refine kw1 kO (kc1 hpl) kc0 ?_;refine Zav _ (Zcs 7 1 901 4 rfl rfl rfl) ?_;refine Zai (fun (k : Nat) => k ≤ (ksF l l.length).length) (fun k => [(2, .ptr 2 0 0 0), (3, .ptr 3 0 0 0), (7, .ptr 7 0 0 0), (17, .d (Zak (Zbl l l.length))), (18, .int (ksF l l.length).length), (19, .int k)]) (fun k => [(2, .cells [.int g.ns.length, .d (Zak (Zbl l l.length)), .d (Zac (Zbn l l.length))]), (3, .cells [.d (Zbf g.nm), .d (.bool g.dir), .d (.sl (g.ns.map ndD)), .d (.sl (g.es.map edD)), .d (.sl (g.cs.map clD))]), (7, .cells [.int g.ns.length, .ref 901 4 0 (Zbj g l k).length (Zbj g l k).length]), (901, .row 4 ((Zbj g l k).map Sx.bdD))]) (fun k => (ksF l l.length).length - k) 0 ?_ ?_ ?_
 ·exact Nat.zero_le _
 ·exact kN (kc4 @Zbj.eq_1 @List.take_zero.{0} @List.map_nil.{0,0} @List.length_nil.{0}) []
 ·intro k hk;have hl1 := ZhB (g := g) hk;rcases Nat.lt_or_ge k (ksF l l.length).length with hlt | hge
  ·obtain ⟨i, hi⟩ := Zad hlt;obtain ⟨q1, q2⟩ := Zjx (List.mem_of_getElem? hi);obtain ⟨a, ha⟩ := Zad q1;obtain ⟨e, he⟩ := Zad (l := g.es) (k := i) (by omega);have p1 : (Zbl l l.length)[k]? = some ((a.1 : Int), (a.2 : Int)) := by rw [Zbl, List.getElem?_map, hi]; simp [ZiC, ha]
   have p2 : (Zbn l l.length)[k]? = some (i : Int) := by rw [Zbn, List.getElem?_map, hi]; rfl
   have e1 : Zbj g l (k + 1) = Zbj g l k ++ [((a.1 : Int), (a.2 : Int), e.ln, e.wt)] := by
    rw [Zbj, Zbj, ZaD hi, List.map_append]; simp [Zjb, ha, he]
   have htk : ((Zbj g l k).map Sx.bdD).take k = (Zbj g l k).map Sx.bdD := List.take_of_length_le (by simp [hl1]);refine kw1 kO (kc7 p1 p2 he hpl hel hl1 htk) kc0 ?_;refine ⟨k + 1, ?_, kN (kc7 e1 @List.length_append.{0} @List.length_singleton.{0} @List.map_append.{0,0} @List.map_cons.{0,0} @List.map_nil.{0,0} hl1) [(901, 45)], ?_⟩
   ·exact hlt
   ·omega
  ·obtain rfl : k = (ksF l l.length).length := by omega
   refine Zav _ (Zc5 901 4 ((Zbj g l (ksF l l.length).length).map Sx.bdD) rfl (ZcR _ rfl) (by decide)) ?_;have htk0 : ((Zbj g l (ksF l l.length).length).map Sx.bdD).take (ksF l l.length).length = (Zbj g l (ksF l l.length).length).map Sx.bdD := List.take_of_length_le (by simp [hl1]);refine kw1 kO (kc3 htk0 @List.drop_zero.{0} hl1) (kc1 (kmc [(2000, 950), (2001, 951)] hS)) ?_;exact ⟨_, rfl, rfl, rfl, Zah rfl, trivial⟩
theorem ZoL (a b : List Int) : Zaa Tryz.prog 31 [Zac a, Zac b] (.bool (decide (a = b))) := by
 refine kE Tryz.func31 ?_;intro hat B X w0;have hl := Zbi 0 hat rfl;rw [List.length_map] at hl;by_cases hab : a.length = b.length
 ·have hab' : (a.length : Int) = b.length := by omega
  refine kw1 kO (kc1 @hab') kc0 ?_;refine Zai (fun (k : Nat) => k ≤ a.length ∧ a.take k = b.take k) (fun k => [(0, .d (Zac a)), (1, .d (Zac b)), (5, .int k)]) (fun k => []) (fun k => a.length - k) 0 ?_ ?_ ?_
  ·exact ⟨Nat.zero_le _, rfl⟩
  ·exact kN kc0 []
  ·rintro k ⟨hk, hinv⟩;rcases Nat.lt_or_ge k a.length with hlt | hge
   ·obtain ⟨x, hx⟩ := Zad hlt;obtain ⟨y, hy⟩ := Zad (l := b) (k := k) (by omega);by_cases c : x = y
    ·subst c;refine kw1 kO (kc2 hx hy) kc0 ?_;refine ⟨k + 1, ?_, kN kc0 [], ?_⟩
     ·exact ⟨hlt, by rw [ZaD hx, ZaD hy, hinv]⟩
     ·omega
    ·refine kw1 kO (kc3 hx hy c) kc0 ?_;exact Zaj (by rw [decide_eq_false (Zf5 hx hy c)])
   ·refine kw1 kO kc0 kc0 ?_;refine Zaj ?_;rw [List.take_of_length_le hge, List.take_of_length_le (by omega)] at hinv;rw [decide_eq_true hinv]
 ·have hab' : ¬ (a.length : Int) = b.length := by omega
  refine kw1 kO (kc1 @hab') kc0 ?_;exact Zaj (by rw [decide_eq_false (fun h => hab (by rw [h]))])
def ZeA (m : Nat) (ks : List Nat) (f : List Int) : Nat → List Int
 | 0 => List.replicate m 0
 | k + 1 => (ZeA m ks f k).set (ks[k]?.getD 0) (f[k]?.getD 0)
theorem Zxm (m : Nat) (ks : List Nat) (f : List Int) : ∀ k, (ZeA m ks f k).length = m := by
 intro k
 induction k with
 | zero => simp [ZeA]
 | succ k ih => rw [ZeA, List.length_set, ih]
def Zkr (g : Gph) (f : List Int) : List Int := ZeA g.es.length (ksF (ZbH g) (ZbH g).length) f (ksF (ZbH g) (ZbH g).length).length
theorem Zwb {g : Gph} (hs : ZbD g) {r f : List Int} (hS : Sx.SolveOk (ZbZ g) r f) : Zaa Tryz.prog 29 [ZbV g] (.tup [Zac r, Zac (Zkr g f), .int 0]) := by
 have h1 := Zh4 g hs.md;rw [hs.ok] at h1;have h2 := ZlZ hs;have h3 := Zrv hs hS;obtain ⟨n', hn', hr', hf', _⟩ := hS;obtain ⟨h256, _, _⟩ := Zge hs.ok;have hbl := Zhx g;rw [Zkr];simp only [ZbZ] at hf';rw [ZhB (Nat.le_refl _)] at hf';generalize ZbH g = l at *;have hlk := Zg9 l l.length;have hel : (Zbn l l.length).length = (ksF l l.length).length := by rw [Zbn, List.length_map]
 refine kE Tryz.func29 ?_;intro hat B X w0;refine kw1 kO (kc1 hel) (kc3 h1 h2 h3) ?_;refine Zai (fun (k : Nat) => k ≤ (ksF l l.length).length) (fun k => [(7, .d (Zac r)), (8, .d (Zac f)), (10, .ref 33 1 0 g.es.length g.es.length), (35, .d (Zac (Zbn l l.length))), (36, .int (ksF l l.length).length), (37, .int k)]) (fun k => [(33, .row 1 ((ZeA g.es.length (ksF l l.length) f k).map D.int))]) (fun k => (ksF l l.length).length - k) 0 ?_ ?_ ?_
 ·exact Nat.zero_le _
 ·exact kN (kc2 @ZeA.eq_1 @List.map_replicate.{0,0}) []
 ·intro k hk;have hal := Zxm g.es.length (ksF l l.length) f k;rcases Nat.lt_or_ge k (ksF l l.length).length with hlt | hge
  ·obtain ⟨i, hi⟩ := Zad hlt;obtain ⟨x, hx⟩ := Zad (l := f) (k := k) (by omega);obtain ⟨q1, q2⟩ := Zjx (List.mem_of_getElem? hi);have p2 : (Zbn l l.length)[k]? = some (i : Int) := by rw [Zbn, List.getElem?_map, hi]; rfl
   obtain ⟨y, hy⟩ := Zad (l := ZeA g.es.length (ksF l l.length) f k) (k := i) (by omega);have e1 : ZeA g.es.length (ksF l l.length) f (k + 1) = (ZeA g.es.length (ksF l l.length) f k).set i x := by rw [ZeA, hi, hx]; rfl
   refine kw1 kO (kc5 p2 hel hx hy hal) kc0 ?_;refine ⟨k + 1, ?_, kN (kc2 e1 @List.map_set.{0,0}) [], ?_⟩
   ·exact hlt
   ·omega
  ·obtain rfl : k = (ksF l l.length).length := by omega
   refine kw1 kO kc0 kc0 ?_;exact ⟨_, rfl, rfl, Zdb (o := 33) rfl rfl (by simp [hal]) (by rw [List.take_of_length_le (by simp [hal])]), Zah rfl, trivial⟩
abbrev Zm7 (c : UInt8) : Nd := ⟨⟨#[c]⟩, ⟨#[97]⟩, 20000, 10000, -1, []⟩
abbrev ZoT (t : Int) : Ed := ⟨0, t, -1, -1, ⟨#[]⟩, 1, 1⟩
abbrev Zfj : Gph := ⟨⟨#[103]⟩, true, [Zm7 97, Zm7 98, Zm7 99], [ZoT 1, ZoT 2], []⟩
theorem Zuk : Mod Zfj := by
 refine ⟨by decide, fun n hn => ?_, fun e he => ?_, fun c hc => by cases hc⟩
 ·simp only [List.mem_cons, List.not_mem_nil, or_false] at hn;rcases hn with rfl | rfl | rfl <;> exact ⟨by decide, by decide, fun p hp => by cases hp⟩
 ·simp only [List.mem_cons, List.not_mem_nil, or_false] at he;rcases he with rfl | rfl <;> decide
theorem ZtK : Zdt Zfj = 0 := by decide +kernel
theorem Zv8 : ZbD Zfj := ⟨Zuk, ZtK, by decide⟩
theorem ZqV : ZbH Zfj = [(0, 1), (0, 2)] := by decide +kernel
theorem Zx3 : ZbZ Zfj = (3, [(0, 1, 1, 1), (0, 2, 1, 1)]) := by rw [ZbZ, ZqV]; decide +kernel
theorem Zs1 : Sx.SolveOk (ZbZ Zfj) [0, 1, 1] [1, 1] := by
 rw [Zx3];exact Sx.solve_of 3 _ 10 _ _ (by decide +kernel) (by decide +kernel) (by decide +kernel) (by decide +kernel) (by decide +kernel) (by decide +kernel)
theorem Zta : Zaa Tryz.prog 29 [ZbV Zfj] (.tup [Zac [0, 1, 1], Zac [1, 1], .int 0]) := by
 have h := Zwb Zv8 Zs1;rw [show Zkr Zfj [1, 1] = [1, 1] by rw [Zkr, ZqV]; decide +kernel] at h;exact h
theorem Zzw : Zaa Tryz.prog 44 [] (ZbV Zfj) := by
 refine kE Tryz.func44 ?_;intro hat B X w0
 repeat' first | refine ZaK rfl ?_ | refine ZaF ?_ | refine Zci (Nat.beq 7) Zbr ?_ | (refine ZaM rfl rfl (fun hc => ?_) (fun hc => ?_) <;> try simp only [hcL] at hc) | (refine ZaL _ rfl rfl (fun hc => ?_) (fun hc => ?_) <;> (try simp only [hcL] at hc) <;> try omega) | simp (disch := omega) only [go_sem, simprocAttr] | apply And.intro | omega | decide +kernel
 refine ⟨_, _, _, _, rfl, ?_⟩;simp (disch := omega) only [go_sem, simprocAttr];rfl
theorem Zs9 : Zaa Tryz.prog 12 [] (.bool true) := by
 have h1 := Zzw;have h2 := Zta;have h3 := ZoL [0, 1, 1] [0, 1, 1];rw [decide_eq_true rfl] at h3;refine kE Tryz.func12 ?_;intro hat B X w0;refine kw1 kO kc0 (kc3 h1 h2 h3) ?_;exact Zaj rfl
end Go.Proofs.YtjjbhjnpeenbkaaGreatDoor.Gr
namespace Go.Proofs.YtjjbhjnpeenbkaaGreatDoor.Gr
open Go Go.PS Go.Proofs Go.Proofs.YtjjbhjnpeenbkaaGreatDoor
set_option maxRecDepth 100000
attribute [local irreducible] Zab wpG Zaa Zaf

theorem ZhF {α : Type} {q : α → Bool} {l : List α} {k : Nat} {x : α} (h : l[k]? = some x) (hq : q x = false) : l.all q = false := by
 rw [List.all_eq_false];exact ⟨x, List.mem_of_getElem? h, by rw [hq]; decide⟩
theorem ZjS {α : Type} {q : α → Bool} {l : List α} {k : Nat} (hk : l.length ≤ k) (h : ∀ (j : Nat) y, j < k → l[j]? = some y → q y = true) : l.all q = true := by
 rw [List.all_eq_true];intro x hx;obtain ⟨j, hj⟩ := List.mem_iff_getElem?.1 hx;exact h j x (by have := (List.getElem?_eq_some_iff.1 hj).1; omega) hj
def ptF (p : Pt) : Bool := decide (p.nm.size ≤ 40)
def ndF (n : Nd) : Bool := decide (n.nm.size ≤ 40 ∧ n.lb.size ≤ 80 ∧ n.ps.length ≤ 9) && n.ps.all ptF
def edF (e : Ed) : Bool := decide (e.lb.size ≤ 80 ∧ e.ln ≤ 4)
def clF (c : Cl) : Bool := decide (c.nm.size ≤ 40)
def Zfx (g : Gph) (n m : Nat) : Bool := decide (g.ns.length ≤ n ∧ g.es.length ≤ m ∧ g.cs.length ≤ 6 ∧ g.nm.size ≤ 40) && (g.ns.all ndF && (g.es.all edF && g.cs.all clF))
theorem Zsg (g : Gph) (n m : Nat) (hn : n ≤ 100) (hm : m ≤ 100) : Zaa Tryz.prog 11 [ZbV g, .int n, .int m] (.bool (Zfx g n m)) := by
 by_cases c0 : g.ns.length ≤ n ∧ g.es.length ≤ m ∧ g.cs.length ≤ 6 ∧ g.nm.size ≤ 40
 ·obtain ⟨a1, a2, a3, a4⟩ := c0;rw [Zfx, decide_eq_true ⟨a1, a2, a3, a4⟩, Bool.true_and];have b1 : ¬ (n : Int) < g.ns.length := by omega
  have b2 : ¬ (m : Int) < g.es.length := by omega
  have b3 : ¬ (6 : Int) < g.cs.length := by omega
  have b4 : ¬ (40 : Int) < g.nm.size := by omega
  refine kE Tryz.func11 ?_;intro hat B X w0;refine kw1 kO (kc4 b1 b2 b3 b4) kc0 ?_;refine Zai (fun (k : Nat) => k ≤ g.ns.length ∧ ∀ (j : Nat) y, j < k → g.ns[j]? = some y → ndF y = true) (fun k => [(3, .ptr 3 0 0 0), (7, .int k)]) (fun k => [(3, .cells [.d (Zbf g.nm), .d (.bool g.dir), .d (.sl (g.ns.map ndD)), .d (.sl (g.es.map edD)), .d (.sl (g.cs.map clD))])]) (fun k => g.ns.length - k) 0 ?_ ?_ ?_
  ·exact ⟨Nat.zero_le _, fun j y h => by omega⟩
  ·exact kN kc0 []
  ·rintro k ⟨hk, hinv⟩;rcases Nat.lt_or_ge k g.ns.length with hlt | hge
   ·obtain ⟨x, hx⟩ := Zad hlt;by_cases c1 : x.nm.size ≤ 40 ∧ x.lb.size ≤ 80 ∧ x.ps.length ≤ 9
    ·obtain ⟨d1, d2, d3⟩ := c1;have f1 : ¬ (40 : Int) < x.nm.size := by omega
     have f2 : ¬ (80 : Int) < x.lb.size := by omega
     have f3 : ¬ (9 : Int) < x.ps.length := by omega
     have hx2 : ndF x = x.ps.all ptF := by rw [ndF, decide_eq_true ⟨d1, d2, d3⟩, Bool.true_and]
     refine kw1 kO (kc4 hx f1 f2 f3) kc0 ?_;refine Zai (fun (j : Nat) => j ≤ x.ps.length ∧ ∀ (i : Nat) y, i < j → x.ps[i]? = some y → ptF y = true) (fun j => [(3, .ptr 3 0 0 0), (7, .int k), (8, .ptr 8 0 0 0), (9, .int j)]) (fun j => [(3, .cells [.d (Zbf g.nm), .d (.bool g.dir), .d (.sl (g.ns.map ndD)), .d (.sl (g.es.map edD)), .d (.sl (g.cs.map clD))]), (8, .cells [.d (Zbf x.nm), .d (Zbf x.lb), .int x.w, .int x.h, .int x.cl, .d (.sl (x.ps.map ptD))])]) (fun j => x.ps.length - j) 0 ?_ ?_ ?_
     ·exact ⟨Nat.zero_le _, fun j y h => by omega⟩
     ·exact kN kc0 []
     ·rintro j ⟨hj, hjn⟩;rcases Nat.lt_or_ge j x.ps.length with hjl | hjg
      ·obtain ⟨p, hp⟩ := Zad hjl;by_cases c2 : p.nm.size ≤ 40
       ·have f4 : ¬ (40 : Int) < p.nm.size := by omega
        refine kw1 kO (kc2 hp f4) kc0 ?_;refine ⟨j + 1, ?_, kN kc0 [], ?_⟩
        ·exact ⟨hjl, ZbL hjn hp (decide_eq_true c2)⟩
        ·omega
       ·have f4 : (40 : Int) < p.nm.size := by omega
        refine kw1 kO (kc2 hp f4) kc0 ?_;exact Zaj (by rw [ZhF hx (by rw [hx2]; exact ZhF hp (decide_eq_false c2))]; rfl)
      ·refine kw1 kO kc0 kc0 ?_;refine ⟨k + 1, ?_, kN kc0 [], ?_⟩
       ·exact ⟨hlt, ZbL hinv hx (by rw [hx2]; exact ZjS hjg hjn)⟩
       ·omega
    ·have hx2 : ndF x = false := by rw [ndF, decide_eq_false c1]; rfl
     refine kw kO (kc1 hx) kc0 ?_
     repeat' first | exact True.intro | refine Bn.mk ?_ ?_ | intro hc
     all_goals first | (refine Zaj ?_; rw [ZhF hx hx2]; rfl) | (exfalso; omega)
   ·refine kw1 kO kc0 kc0 ?_;refine Zai (fun (j : Nat) => j ≤ g.es.length ∧ ∀ (i : Nat) y, i < j → g.es[i]? = some y → edF y = true) (fun j => [(3, .ptr 3 0 0 0), (10, .int j)]) (fun j => [(3, .cells [.d (Zbf g.nm), .d (.bool g.dir), .d (.sl (g.ns.map ndD)), .d (.sl (g.es.map edD)), .d (.sl (g.cs.map clD))])]) (fun j => g.es.length - j) 0 ?_ ?_ ?_
    ·exact ⟨Nat.zero_le _, fun j y h => by omega⟩
    ·exact kN kc0 []
    ·rintro j ⟨hj, hjn⟩;rw [ZjS hge hinv, Bool.true_and];rcases Nat.lt_or_ge j g.es.length with hjl | hjg
     ·obtain ⟨e, he⟩ := Zad hjl;by_cases c2 : e.lb.size ≤ 80
      ·have f4 : ¬ (80 : Int) < e.lb.size := by omega
       by_cases c3 : e.ln ≤ 4
       ·have f5 : ¬ (4 : Int) < e.ln := by omega
        refine kw1 kO (kc3 he f4 f5) kc0 ?_;refine ⟨j + 1, ?_, kN kc0 [], ?_⟩
        ·exact ⟨hjl, ZbL hjn he (decide_eq_true ⟨c2, c3⟩)⟩
        ·omega
       ·have f5 : (4 : Int) < e.ln := by omega
        refine kw1 kO (kc3 he f4 f5) kc0 ?_;exact Zaj (by rw [ZhF he (decide_eq_false (fun h => c3 h.2))]; rfl)
      ·have f4 : (80 : Int) < e.lb.size := by omega
       refine kw1 kO (kc2 he f4) kc0 ?_;exact Zaj (by rw [ZhF he (decide_eq_false (fun h => c2 h.1))]; rfl)
     ·rw [ZjS hjg hjn, Bool.true_and];refine kw1 kO kc0 kc0 ?_;refine Zai (fun (j : Nat) => j ≤ g.cs.length ∧ ∀ (i : Nat) y, i < j → g.cs[i]? = some y → clF y = true) (fun j => [(3, .ptr 3 0 0 0), (11, .int j)]) (fun j => [(3, .cells [.d (Zbf g.nm), .d (.bool g.dir), .d (.sl (g.ns.map ndD)), .d (.sl (g.es.map edD)), .d (.sl (g.cs.map clD))])]) (fun j => g.cs.length - j) 0 ?_ ?_ ?_
      ·exact ⟨Nat.zero_le _, fun j y h => by omega⟩
      ·exact kN kc0 []
      ·rintro j ⟨hj, hjn⟩;rcases Nat.lt_or_ge j g.cs.length with hjl | hjg
       ·obtain ⟨c, hc⟩ := Zad hjl;by_cases c2 : c.nm.size ≤ 40
        ·have f4 : ¬ (40 : Int) < c.nm.size := by omega
         refine kw1 kO (kc2 hc f4) kc0 ?_;refine ⟨j + 1, ?_, kN kc0 [], ?_⟩
         ·exact ⟨hjl, ZbL hjn hc (decide_eq_true c2)⟩
         ·omega
        ·have f4 : (40 : Int) < c.nm.size := by omega
         refine kw1 kO (kc2 hc f4) kc0 ?_;exact Zaj (by rw [ZhF hc (decide_eq_false c2)])
       ·refine kw1 kO kc0 kc0 ?_;exact Zaj (by rw [ZjS hjg hjn])
 ·rw [Zfx, decide_eq_false c0, Bool.false_and];refine kE Tryz.func11 ?_;intro hat B X w0;refine kw kO kc0 kc0 ?_
  repeat' first | exact True.intro | refine Bn.mk ?_ ?_ | intro hc
  all_goals first | exact Zaj rfl | (exfalso; omega)
theorem ZnQ {g : Gph} {n m : Nat} (h : Zfx g n m = true) : g.ns.length ≤ n ∧ g.es.length ≤ m ∧ Mod g ∧ ∀ e ∈ g.es, e.ln ≤ 4 := by
 simp only [Zfx, Bool.and_eq_true, decide_eq_true_eq, List.all_eq_true] at h;obtain ⟨⟨h1, h2, h3, h4⟩, h5, h6, h7⟩ := h;refine ⟨h1, h2, ⟨by omega, fun x hx => ?_, fun e he => ?_, fun c hc => ?_⟩, fun e he => ?_⟩
 ·have := h5 x hx;simp only [ndF, Bool.and_eq_true, decide_eq_true_eq, List.all_eq_true] at this;obtain ⟨⟨g1, g2, g3⟩, g4⟩ := this;exact ⟨by omega, by omega, fun p hp => by have := g4 p hp; rw [ptF, decide_eq_true_eq] at this; omega⟩
 ·have := h6 e he; rw [edF, decide_eq_true_eq] at this; omega
 ·have := h7 c hc; rw [clF, decide_eq_true_eq] at this; omega
 ·have := h6 e he; rw [edF, decide_eq_true_eq] at this; omega
end Go.Proofs.YtjjbhjnpeenbkaaGreatDoor.Gr
namespace Go.Proofs.YtjjbhjnpeenbkaaGreatDoor.Gr
open Go Go.PS Go.Proofs Go.Proofs.YtjjbhjnpeenbkaaGreatDoor
open Go.Cy (NA InN Zdu Zcn)
set_option maxRecDepth 100000
attribute [local irreducible] Zab wpG Zaa Zaf

theorem ZoH {g : Gr} {r : List Int} (h : (ZaI g r).2 = 0) (hl : g.2.length ≤ 100) : wide (ZaI g r).1 ∧ (ZaI g r).1.2.2.1.length ≤ 700 := by
 have b := built h;have hA := Zkh b.gap g.2.length (Nat.le_refl _);have hB := Zjj b.gap g.2.length (Nat.le_refl _);have h1 := b.big;have h2 := b.len;obtain ⟨_, h4, _⟩ := ZhR b.gok;rw [b.eq];dsimp only;refine ⟨fun y hy => ?_, ?_⟩
 ·rw [Zq4, ZbB] at hy;obtain ⟨k, _, rfl⟩ := List.mem_map.1 hy;have : (ZaX (Zaz r g.2 g.2.length) k).length ≤ (Zaz r g.2 g.2.length).length := by
   rw [ZaX, List.length_map];have := List.length_filter_le (fun v => decide ((Zaz r g.2 g.2.length)[v]? = some (k : Int))) (List.range (Zaz r g.2 g.2.length).length);rw [List.length_range] at this; exact this
  omega
 ·show (ZaT r g.2 g.2.length).length ≤ 700;omega
def pGr (g : Gph) : Gr := ((g.ns.length : Int), Zbl (ZbH g) (ZbH g).length)
def Zi0 (g : Gph) (o : Opt) (r : List Int) : Lv × Int × Int := if (ZaI (pGr g) r).2 = 0 then Zg2 (ZaI (pGr g) r).1 o.rd else (lv0, 0, 2)
theorem Zqt {g : Gph} : (pGr g).2.length ≤ g.es.length := by
 have := Zg9 (ZbH g) (ZbH g).length;rw [pGr, Zbl, List.length_map];have := Zhx g;omega
theorem ZAf {g : Gph} (o : Opt) (hm : Mod g) (h : Zdt g ≠ 0) : Zaa Tryz.prog 13 [ZbV g, Zfr o] (.tup [lvD lv0, .int 0, .int (Zdt g)]) := by
 have h1 := Zh4 g hm;refine kE Tryz.func13 ?_;intro hat B X w0;refine kw1 kO (kc1 h) (kc1 h1) ?_;refine ⟨_, rfl, ⟨_, _, _, _, rfl, ?_⟩, Zah ?_, Zah ?_, trivial⟩
 ·simp (disch := omega) only [go_sem, simprocAttr];rfl
 ·rfl
 ·rfl
theorem ZtX {g : Gph} {o : Opt} (hm : Mod g) (h : Zdt g = 0) (ho : okO o = false) : Zaa Tryz.prog 13 [ZbV g, Zfr o] (.tup [lvD lv0, .int 0, .int 7]) := by
 have h1 := Zh4 g hm;rw [h] at h1;have h2 := Zm3 o;rw [ho] at h2;refine kE Tryz.func13 ?_;intro hat B X w0;refine kw1 kO kc0 (kc2 h1 h2) ?_;refine ⟨_, rfl, ⟨_, _, _, _, rfl, ?_⟩, Zah ?_, Zah ?_, trivial⟩
 ·simp (disch := omega) only [go_sem, simprocAttr];rfl
 ·rfl
 ·rfl
theorem ZtH {g : Gph} {o : Opt} (hs : ZbD g) (ho : okO o = true) {e : Int} (hS : Sx.SolveNo (ZbZ g) e) (he : e ≠ 0) : Zaa Tryz.prog 13 [ZbV g, Zfr o] (.tup [lvD lv0, .int 0, .int e]) := by
 have h1 := Zh4 g hs.md;rw [hs.ok] at h1;have h2 := Zm3 o;rw [ho] at h2;have h3 := ZlZ hs;have h4 := Zyx hs hS;refine kE Tryz.func13 ?_;intro hat B X w0;refine kw1 kO (kc1 he) (kc4 h1 h2 h3 h4) ?_;refine ⟨_, rfl, ⟨_, _, _, _, rfl, ?_⟩, Zah ?_, Zah ?_, trivial⟩
 ·simp (disch := omega) only [go_sem, simprocAttr];rfl
 ·rfl
 ·rfl
theorem ZrU {g : Gph} {o : Opt} (hs : ZbD g) (hl : g.es.length ≤ 100) (ho : okO o = true) {r f : List Int} (hS : Sx.SolveOk (ZbZ g) r f) :
  Zaa Tryz.prog 13 [ZbV g, Zfr o] (.tup [lvD (Zi0 g o r).1, .int (Zi0 g o r).2.1, .int (Zi0 g o r).2.2]) := by
 have h1 := Zh4 g hs.md;rw [hs.ok] at h1;have h2 := Zm3 o;rw [ho] at h2;have h3 := ZlZ hs;have h4 := Zrv hs hS;have h5 : Zaa Tryz.prog 49 [.ag [.int g.ns.length, Zak (Zbl (ZbH g) (ZbH g).length)], Zac r] (.tup [lvD (ZaI (pGr g) r).1, .int (ZaI (pGr g) r).2]) := ZpD (pGr g) r;have hpl := Zqt (g := g);rw [Zi0];by_cases hb : (ZaI (pGr g) r).2 = 0
 ·rw [if_pos hb];obtain ⟨q1, q2⟩ := ZoH hb (by omega);have h6 := ZzX (ZaI (pGr g) r).1 o.rd q1 q2;rw [hb] at h5;generalize (ZaI (pGr g) r).1 = b at *;generalize Zg2 b o.rd = R at *;obtain ⟨n, ls, ar, cs⟩ := b;obtain ⟨⟨n', ls', ar', cs'⟩, R2, R3⟩ := R;refine kE Tryz.func13 ?_;intro hat B X w0;refine kw1 kO kc0 (kc6 h1 h2 h3 h4 h5 h6) ?_;refine ⟨_, rfl, ⟨_, _, _, _, rfl, ?_⟩, Zah ?_, Zah ?_, trivial⟩
  ·simp (disch := omega) only [go_sem, simprocAttr]
  ·rfl
  ·rfl
 ·rw [if_neg hb];generalize ZaI (pGr g) r = b at *;obtain ⟨⟨n, ls, ar, cs⟩, b2⟩ := b;dsimp only at hb h5;refine kE Tryz.func13 ?_;intro hat B X w0;refine kw1 kO (kc1 hb) (kc5 h1 h2 h3 h4 h5) ?_;refine ⟨_, rfl, ⟨_, _, _, _, rfl, ?_⟩, Zah ?_, Zah ?_, trivial⟩
  ·simp (disch := omega) only [go_sem, simprocAttr];rfl
  ·rfl
  ·rfl
end Go.Proofs.YtjjbhjnpeenbkaaGreatDoor.Gr
