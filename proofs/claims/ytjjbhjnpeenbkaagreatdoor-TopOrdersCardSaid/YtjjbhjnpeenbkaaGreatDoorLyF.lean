/- The guard Few. -/
import Derived.Test.YtjjbhjnpeenbkaaGreatDoorDgA
import Derived.Test.YtjjbhjnpeenbkaaGreatDoorN
import Derived.Test.YtjjbhjnpeenbkaaGreatDoorBaF
import Derived.Test.YtjjbhjnpeenbkaaGreatDoorCi
import Derived.Test.YtjjbhjnpeenbkaaGreatDoorPSStable
import Derived.Lay
set_option linter.unusedSimpArgs false
set_option linter.unusedVariables false
set_option maxHeartbeats 16000000
namespace Go.Proofs.YtjjbhjnpeenbkaaGreatDoor.Gr
open Go Go.PS Go.Proofs Go.Proofs.YtjjbhjnpeenbkaaGreatDoor
set_option maxRecDepth 100000
attribute [local irreducible] Zab wpG Zaa Zai

theorem Zhi {α : Type} {q : α → Bool} {l : List α} {k : Nat} {x : α} (h : l[k]? = some x) (hq : q x = false) : l.all q = false := by
 rw [List.all_eq_false]
 exact ⟨x, List.mem_of_getElem? h, by rw [hq]; decide⟩
theorem Zjk {α : Type} {q : α → Bool} {l : List α} {k : Nat} (hk : l.length ≤ k) (h : ∀ (j : Nat) y, j < k → l[j]? = some y → q y = true) : l.all q = true := by
 rw [List.all_eq_true]
 intro x hx
 obtain ⟨j, hj⟩ := List.mem_iff_getElem?.1 hx
 exact h j x (by have := (List.getElem?_eq_some_iff.1 hj).1; omega) hj
def ptF (p : Pt) : Bool := decide (p.nm.size ≤ 40)
def ndF (n : Nd) : Bool := decide (n.nm.size ≤ 40 ∧ n.lb.size ≤ 80 ∧ n.ps.length ≤ 9) && n.ps.all ptF
def edF (e : Ed) : Bool := decide (e.lb.size ≤ 80 ∧ e.ln ≤ 4)
def clF (c : Cl) : Bool := decide (c.nm.size ≤ 40)
def Zfk (g : Gph) (n m : Nat) : Bool := decide (g.ns.length ≤ n ∧ g.es.length ≤ m ∧ g.cs.length ≤ 6 ∧ g.nm.size ≤ 40) && (g.ns.all ndF && (g.es.all edF && g.cs.all clF))
theorem Zv5 (g : Gph) (n m : Nat) (hn : n ≤ 100) (hm : m ≤ 100) : Zaa Tryz.prog 11 [ZbX g, .int n, .int m] (.bool (Zfk g n m)) := by
 by_cases c0 : g.ns.length ≤ n ∧ g.es.length ≤ m ∧ g.cs.length ≤ 6 ∧ g.nm.size ≤ 40
 ·obtain ⟨a1, a2, a3, a4⟩ := c0
  rw [Zfk, decide_eq_true ⟨a1, a2, a3, a4⟩, Bool.true_and]
  have b1 : ¬ (n : Int) < g.ns.length := by omega
  have b2 : ¬ (m : Int) < g.es.length := by omega
  have b3 : ¬ (6 : Int) < g.cs.length := by omega
  have b4 : ¬ (40 : Int) < g.nm.size := by omega
  refine kE Tryz.func11 ?_
  intro hat B X w0
  refine kw1 (kc4 b1 b2 b3 b4) kc0 ?_
  refine Zaf (κ := Nat) (fun (k : Nat) => k ≤ g.ns.length ∧ ∀ (j : Nat) y, j < k → g.ns[j]? = some y → ndF y = true) (fun (k : Nat) => [(3, .ptr 3 0 0 0), (7, .int k)]) (fun (k : Nat) => [(3, .cells [.d (Zbl g.nm), .d (.bool g.dir), .d (.sl (g.ns.map ndD)), .d (.sl (g.es.map edD)), .d (.sl (g.cs.map clD))])]) (fun (k : Nat) => g.ns.length - k) 0 ?_ ?_ ?_
  ·exact ⟨Nat.zero_le _, fun j y h => by omega⟩
  ·exact kN kc0 []
  ·rintro k ⟨hk, hinv⟩
   rcases Nat.lt_or_ge k g.ns.length with hlt | hge
   ·obtain ⟨x, hx⟩ := Zad hlt
    by_cases c1 : x.nm.size ≤ 40 ∧ x.lb.size ≤ 80 ∧ x.ps.length ≤ 9
    ·obtain ⟨d1, d2, d3⟩ := c1
     have f1 : ¬ (40 : Int) < x.nm.size := by omega
     have f2 : ¬ (80 : Int) < x.lb.size := by omega
     have f3 : ¬ (9 : Int) < x.ps.length := by omega
     have hx2 : ndF x = x.ps.all ptF := by rw [ndF, decide_eq_true ⟨d1, d2, d3⟩, Bool.true_and]
     refine kw1 (kc4 hx f1 f2 f3) kc0 ?_
     refine Zaf (κ := Nat) (fun (j : Nat) => j ≤ x.ps.length ∧ ∀ (i : Nat) y, i < j → x.ps[i]? = some y → ptF y = true) (fun (j : Nat) => [(3, .ptr 3 0 0 0), (7, .int k), (8, .ptr 8 0 0 0), (9, .int j)]) (fun (j : Nat) => [(3, .cells [.d (Zbl g.nm), .d (.bool g.dir), .d (.sl (g.ns.map ndD)), .d (.sl (g.es.map edD)), .d (.sl (g.cs.map clD))]), (8, .cells [.d (Zbl x.nm), .d (Zbl x.lb), .int x.w, .int x.h, .int x.cl, .d (.sl (x.ps.map ptD))])]) (fun (j : Nat) => x.ps.length - j) 0 ?_ ?_ ?_
     ·exact ⟨Nat.zero_le _, fun j y h => by omega⟩
     ·exact kN kc0 []
     ·rintro j ⟨hj, hjn⟩
      rcases Nat.lt_or_ge j x.ps.length with hjl | hjg
      ·obtain ⟨p, hp⟩ := Zad hjl
       by_cases c2 : p.nm.size ≤ 40
       ·have f4 : ¬ (40 : Int) < p.nm.size := by omega
        refine kw1 (kc2 hp f4) kc0 ?_
        refine ⟨j + 1, ?_, kN kc0 [], ?_⟩
        ·exact ⟨hjl, ZbE hjn hp (decide_eq_true c2)⟩
        ·omega
       ·have f4 : (40 : Int) < p.nm.size := by omega
        refine kw1 (kc2 hp f4) kc0 ?_
        exact Zaj (by rw [Zhi hx (by rw [hx2]; exact Zhi hp (decide_eq_false c2))]; rfl)
      ·refine kw1 kc0 kc0 ?_
       refine ⟨k + 1, ?_, kN kc0 [], ?_⟩
       ·exact ⟨hlt, ZbE hinv hx (by rw [hx2]; exact Zjk hjg hjn)⟩
       ·omega
    ·have hx2 : ndF x = false := by rw [ndF, decide_eq_false c1]; rfl
     refine kw1 (kc1 hx) kc0 ?_
     all_goals first | (refine Zaj ?_; rw [Zhi hx hx2]; rfl) | (exfalso; omega)
   ·refine kw1 kc0 kc0 ?_
    refine Zaf (κ := Nat) (fun (j : Nat) => j ≤ g.es.length ∧ ∀ (i : Nat) y, i < j → g.es[i]? = some y → edF y = true) (fun (j : Nat) => [(3, .ptr 3 0 0 0), (10, .int j)]) (fun (j : Nat) => [(3, .cells [.d (Zbl g.nm), .d (.bool g.dir), .d (.sl (g.ns.map ndD)), .d (.sl (g.es.map edD)), .d (.sl (g.cs.map clD))])]) (fun (j : Nat) => g.es.length - j) 0 ?_ ?_ ?_
    ·exact ⟨Nat.zero_le _, fun j y h => by omega⟩
    ·exact kN kc0 []
    ·rintro j ⟨hj, hjn⟩
     rw [Zjk hge hinv, Bool.true_and]
     rcases Nat.lt_or_ge j g.es.length with hjl | hjg
     ·obtain ⟨e, he⟩ := Zad hjl
      by_cases c2 : e.lb.size ≤ 80
      ·have f4 : ¬ (80 : Int) < e.lb.size := by omega
       by_cases c3 : e.ln ≤ 4
       ·have f5 : ¬ (4 : Int) < e.ln := by omega
        refine kw1 (kc3 he f4 f5) kc0 ?_
        refine ⟨j + 1, ?_, kN kc0 [], ?_⟩
        ·exact ⟨hjl, ZbE hjn he (decide_eq_true ⟨c2, c3⟩)⟩
        ·omega
       ·have f5 : (4 : Int) < e.ln := by omega
        refine kw1 (kc3 he f4 f5) kc0 ?_
        exact Zaj (by rw [Zhi he (decide_eq_false (fun h => c3 h.2))]; rfl)
      ·have f4 : (80 : Int) < e.lb.size := by omega
       refine kw1 (kc2 he f4) kc0 ?_
       exact Zaj (by rw [Zhi he (decide_eq_false (fun h => c2 h.1))]; rfl)
     ·rw [Zjk hjg hjn, Bool.true_and]
      refine kw1 kc0 kc0 ?_
      refine Zaf (κ := Nat) (fun (j : Nat) => j ≤ g.cs.length ∧ ∀ (i : Nat) y, i < j → g.cs[i]? = some y → clF y = true) (fun (j : Nat) => [(3, .ptr 3 0 0 0), (11, .int j)]) (fun (j : Nat) => [(3, .cells [.d (Zbl g.nm), .d (.bool g.dir), .d (.sl (g.ns.map ndD)), .d (.sl (g.es.map edD)), .d (.sl (g.cs.map clD))])]) (fun (j : Nat) => g.cs.length - j) 0 ?_ ?_ ?_
      ·exact ⟨Nat.zero_le _, fun j y h => by omega⟩
      ·exact kN kc0 []
      ·rintro j ⟨hj, hjn⟩
       rcases Nat.lt_or_ge j g.cs.length with hjl | hjg
       ·obtain ⟨c, hc⟩ := Zad hjl
        by_cases c2 : c.nm.size ≤ 40
        ·have f4 : ¬ (40 : Int) < c.nm.size := by omega
         refine kw1 (kc2 hc f4) kc0 ?_
         refine ⟨j + 1, ?_, kN kc0 [], ?_⟩
         ·exact ⟨hjl, ZbE hjn hc (decide_eq_true c2)⟩
         ·omega
        ·have f4 : (40 : Int) < c.nm.size := by omega
         refine kw1 (kc2 hc f4) kc0 ?_
         exact Zaj (by rw [Zhi hc (decide_eq_false c2)])
       ·refine kw1 kc0 kc0 ?_
        exact Zaj (by rw [Zjk hjg hjn])
 ·rw [Zfk, decide_eq_false c0, Bool.false_and]
  refine kE Tryz.func11 ?_
  intro hat B X w0
  refine kw1 kc0 kc0 ?_
  all_goals first | exact Zaj rfl | (exfalso; omega)
theorem ZnX {g : Gph} {n m : Nat} (h : Zfk g n m = true) : g.ns.length ≤ n ∧ g.es.length ≤ m ∧ Mod g ∧ ∀ e ∈ g.es, e.ln ≤ 4 := by
 simp only [Zfk, Bool.and_eq_true, decide_eq_true_eq, List.all_eq_true] at h
 obtain ⟨⟨h1, h2, h3, h4⟩, h5, h6, h7⟩ := h
 refine ⟨h1, h2, ⟨by omega, fun x hx => ?_, fun e he => ?_, fun c hc => ?_⟩, fun e he => ?_⟩
 ·have := h5 x hx
  simp only [ndF, Bool.and_eq_true, decide_eq_true_eq, List.all_eq_true] at this
  obtain ⟨⟨g1, g2, g3⟩, g4⟩ := this
  exact ⟨by omega, by omega, fun p hp => by have := g4 p hp; rw [ptF, decide_eq_true_eq] at this; omega⟩
 ·have := h6 e he; rw [edF, decide_eq_true_eq] at this; omega
 ·have := h7 c hc; rw [clF, decide_eq_true_eq] at this; omega
 ·have := h6 e he; rw [edF, decide_eq_true_eq] at this; omega
end Go.Proofs.YtjjbhjnpeenbkaaGreatDoor.Gr
namespace Go.Proofs.YtjjbhjnpeenbkaaGreatDoor.Gr
open Go Go.PS Go.Proofs Go.Proofs.YtjjbhjnpeenbkaaGreatDoor
open Go.Cy (NA InN Zdt Zcw)
set_option maxRecDepth 100000
attribute [local irreducible] Zab wpG Zaa Zai

theorem ZpY {g : Gr} {r : List Int} (h : (ZaO g r).2 = 0) (hl : g.2.length ≤ 100) : wide (ZaO g r).1 ∧ (ZaO g r).1.2.2.1.length ≤ 700 := by
 have b := built h
 have hA := Zj6 b.gap g.2.length (Nat.le_refl _)
 have hB := Zj2 b.gap g.2.length (Nat.le_refl _)
 have h1 := b.big
 have h2 := b.len
 obtain ⟨_, h4, _⟩ := Zgz b.gok
 rw [b.eq]
 dsimp only
 refine ⟨fun y hy => ?_, ?_⟩
 ·rw [Zrp, ZbH] at hy
  obtain ⟨k, _, rfl⟩ := List.mem_map.1 hy
  have : (Za1 (ZaB r g.2 g.2.length) k).length ≤ (ZaB r g.2 g.2.length).length := by
   rw [Za1, List.length_map]
   have := List.length_filter_le (fun v => decide ((ZaB r g.2 g.2.length)[v]? = some (k : Int))) (List.range (ZaB r g.2 g.2.length).length)
   rw [List.length_range] at this; exact this
  omega
 ·show (ZaW r g.2 g.2.length).length ≤ 700
  omega
def pGr (g : Gph) : Gr := ((g.ns.length : Int), Zbr (ZbL g) (ZbL g).length)
def ZiK (g : Gph) (o : Opt) (r : List Int) : Lv × Int × Int := if (ZaO (pGr g) r).2 = 0 then ZgS (ZaO (pGr g) r).1 o.rd else (lv0, 0, 2)
theorem Zqo {g : Gph} : (pGr g).2.length ≤ g.es.length := by
 have := Zg7 (ZbL g) (ZbL g).length
 rw [pGr, Zbr, List.length_map]
 have := ZhC g
 omega
theorem ZtA {g : Gph} (o : Opt) (hm : Mod g) (h : Zdq g ≠ 0) : Zaa Tryz.prog 13 [ZbX g, Zfh o] (.tup [lvD lv0, .int 0, .int (Zdq g)]) := by
 have h1 := ZiS g hm
 refine kE Tryz.func13 ?_
 intro hat B X w0
 refine kw1 (kc1 h) (kc1 h1) ?_
 refine ⟨_, rfl, ⟨_, _, _, _, rfl, ?_⟩, Zag ?_, Zag ?_, trivial⟩
 ·simp (disch := omega) only [go_sem, simprocAttr]
  rfl
 ·rfl
 ·rfl
theorem Zzb {g : Gph} {o : Opt} (hm : Mod g) (h : Zdq g = 0) (ho : okO o = false) : Zaa Tryz.prog 13 [ZbX g, Zfh o] (.tup [lvD lv0, .int 0, .int 7]) := by
 have h1 := ZiS g hm
 rw [h] at h1
 have h2 := Zk9 o
 rw [ho] at h2
 refine kE Tryz.func13 ?_
 intro hat B X w0
 refine kw1 kc0 (kc2 h1 h2) ?_
 refine ⟨_, rfl, ⟨_, _, _, _, rfl, ?_⟩, Zag ?_, Zag ?_, trivial⟩
 ·simp (disch := omega) only [go_sem, simprocAttr]
  rfl
 ·rfl
 ·rfl
theorem Zwt {g : Gph} {o : Opt} (hs : ZbK g) (ho : okO o = true) {e : Int} (hS : Sx.SolveNo (Zb8 g) e) (he : e ≠ 0) : Zaa Tryz.prog 13 [ZbX g, Zfh o] (.tup [lvD lv0, .int 0, .int e]) := by
 have h1 := ZiS g hs.md
 rw [hs.ok] at h1
 have h2 := Zk9 o
 rw [ho] at h2
 have h3 := Zmf hs
 have h4 := Zv1 hs hS
 refine kE Tryz.func13 ?_
 intro hat B X w0
 refine kw1 (kc1 he) (kc4 h1 h2 h3 h4) ?_
 refine ⟨_, rfl, ⟨_, _, _, _, rfl, ?_⟩, Zag ?_, Zag ?_, trivial⟩
 ·simp (disch := omega) only [go_sem, simprocAttr]
  rfl
 ·rfl
 ·rfl
theorem Zr2 {g : Gph} {o : Opt} (hs : ZbK g) (hl : g.es.length ≤ 100) (ho : okO o = true) {r f : List Int} (hS : Sx.SolveOk (Zb8 g) r f) :
  Zaa Tryz.prog 13 [ZbX g, Zfh o] (.tup [lvD (ZiK g o r).1, .int (ZiK g o r).2.1, .int (ZiK g o r).2.2]) := by
 have h1 := ZiS g hs.md
 rw [hs.ok] at h1
 have h2 := Zk9 o
 rw [ho] at h2
 have h3 := Zmf hs
 have h4 := Zn0 hs hS
 have h5 : Zaa Tryz.prog 49 [.ag [.int g.ns.length, Zak (Zbr (ZbL g) (ZbL g).length)], Zac r] (.tup [lvD (ZaO (pGr g) r).1, .int (ZaO (pGr g) r).2]) := ZqM (pGr g) r
 have hpl := Zqo (g := g)
 rw [ZiK]
 by_cases hb : (ZaO (pGr g) r).2 = 0
 ·rw [if_pos hb]
  obtain ⟨q1, q2⟩ := ZpY hb (by omega)
  have h6 := Zvi (ZaO (pGr g) r).1 o.rd q1 q2
  rw [hb] at h5
  generalize (ZaO (pGr g) r).1 = b at *
  generalize ZgS b o.rd = R at *
  obtain ⟨n, ls, ar, cs⟩ := b
  obtain ⟨⟨n', ls', ar', cs'⟩, R2, R3⟩ := R
  refine kE Tryz.func13 ?_
  intro hat B X w0
  refine kw1 kc0 (kc6 h1 h2 h3 h4 h5 h6) ?_
  refine ⟨_, rfl, ⟨_, _, _, _, rfl, ?_⟩, Zag ?_, Zag ?_, trivial⟩
  ·simp (disch := omega) only [go_sem, simprocAttr]
  ·rfl
  ·rfl
 ·rw [if_neg hb]
  generalize ZaO (pGr g) r = b at *
  obtain ⟨⟨n, ls, ar, cs⟩, b2⟩ := b
  dsimp only at hb h5
  refine kE Tryz.func13 ?_
  intro hat B X w0
  refine kw1 (kc1 hb) (kc5 h1 h2 h3 h4 h5) ?_
  refine ⟨_, rfl, ⟨_, _, _, _, rfl, ?_⟩, Zag ?_, Zag ?_, trivial⟩
  ·simp (disch := omega) only [go_sem, simprocAttr]
   rfl
  ·rfl
  ·rfl
end Go.Proofs.YtjjbhjnpeenbkaaGreatDoor.Gr
namespace Go.Proofs.YtjjbhjnpeenbkaaGreatDoor.Gr
open Go Go.PS Go.Proofs Go.Proofs.YtjjbhjnpeenbkaaGreatDoor
set_option maxRecDepth 100000
theorem Zhj {n : Nat} {cs : List D} (h : Zbu Tryz.prog (n + 1) 9 cs) : ∃ s : ByteArray, cs = [Zbl s] := by
 have hu : Tryz.prog.underlying 9 = some .string := by kernel_rfl
 simp only [Zbu, hu] at h
 exact h
theorem Zvu {n : Nat} {cs : List D} (h : Zbu Tryz.prog (n + 1) 4 cs) : ∃ b : Bool, cs = [.bool b] := by
 have hu : Tryz.prog.underlying 4 = some .bool := by kernel_rfl
 simp only [Zbu, hu] at h
 exact h
theorem ZsG {n : Nat} {cs : List D} (h : Zbu Tryz.prog (n + 3) 64 cs) : ∃ l : List Pt, cs = [.sl (l.map ptD)] := by
 obtain ⟨l, rfl, hl⟩ := ZjC (e := 92) (by kernel_rfl) h
 obtain ⟨ys, rfl⟩ := Zi2 (f := ptD) (l := l) (fun d hd => by
  obtain ⟨es, rfl, _, he⟩ := hl d hd
  obtain ⟨_, _, rfl, h1, _, _, rfl, h2, rfl⟩ := ZhQ (ts := [9, 3]) (by kernel_rfl) he
  obtain ⟨a, rfl⟩ := Zhj h1
  obtain ⟨b, rfl⟩ := Zc2 h2
  rw [ZuF]; exact ⟨⟨a, b⟩, rfl⟩)
 exact ⟨ys, rfl⟩
theorem Zt8 {n : Nat} {cs : List D} (h : Zbu Tryz.prog (n + 5) 22 cs) : ∃ l : List Nd, cs = [.sl (l.map ndD)] := by
 obtain ⟨l, rfl, hl⟩ := ZjC (e := 66) (by kernel_rfl) h
 obtain ⟨ys, rfl⟩ := Zi2 (f := ndD) (l := l) (fun d hd => by
  obtain ⟨es, rfl, _, he⟩ := hl d hd
  obtain ⟨_, _, rfl, h1, _, _, rfl, h2, _, _, rfl, h3, _, _, rfl, h4, _, _, rfl, h5, _, _, rfl, h6, rfl⟩ := ZhQ (ts := [9, 9, 3, 3, 3, 64]) (by kernel_rfl) he
  obtain ⟨a, rfl⟩ := Zhj h1
  obtain ⟨b, rfl⟩ := Zhj h2
  obtain ⟨c, rfl⟩ := Zc2 h3
  obtain ⟨d, rfl⟩ := Zc2 h4
  obtain ⟨e, rfl⟩ := Zc2 h5
  obtain ⟨f, rfl⟩ := ZsG h6
  rw [ZxF]; exact ⟨⟨a, b, c, d, e, f⟩, rfl⟩)
 exact ⟨ys, rfl⟩
theorem Zw6 {n : Nat} {cs : List D} (h : Zbu Tryz.prog (n + 3) 23 cs) : ∃ l : List Ed, cs = [.sl (l.map edD)] := by
 obtain ⟨l, rfl, hl⟩ := ZjC (e := 61) (by kernel_rfl) h
 obtain ⟨ys, rfl⟩ := Zi2 (f := edD) (l := l) (fun d hd => by
  obtain ⟨es, rfl, _, he⟩ := hl d hd
  obtain ⟨_, _, rfl, h1, _, _, rfl, h2, _, _, rfl, h3, _, _, rfl, h4, _, _, rfl, h5, _, _, rfl, h6, _, _, rfl, h7, rfl⟩ := ZhQ (ts := [3, 3, 3, 3, 9, 3, 3]) (by kernel_rfl) he
  obtain ⟨a, rfl⟩ := Zc2 h1
  obtain ⟨b, rfl⟩ := Zc2 h2
  obtain ⟨c, rfl⟩ := Zc2 h3
  obtain ⟨d, rfl⟩ := Zc2 h4
  obtain ⟨e, rfl⟩ := Zhj h5
  obtain ⟨f, rfl⟩ := Zc2 h6
  obtain ⟨g, rfl⟩ := Zc2 h7
  rw [ZxE]; exact ⟨⟨a, b, c, d, e, f, g⟩, rfl⟩)
 exact ⟨ys, rfl⟩
theorem ZtS {n : Nat} {cs : List D} (h : Zbu Tryz.prog (n + 3) 24 cs) : ∃ l : List Cl, cs = [.sl (l.map clD)] := by
 obtain ⟨l, rfl, hl⟩ := ZjC (e := 94) (by kernel_rfl) h
 obtain ⟨ys, rfl⟩ := Zi2 (f := clD) (l := l) (fun d hd => by
  obtain ⟨es, rfl, _, he⟩ := hl d hd
  obtain ⟨_, _, rfl, h1, _, _, rfl, h2, rfl⟩ := ZhQ (ts := [9, 3]) (by kernel_rfl) he
  obtain ⟨a, rfl⟩ := Zhj h1
  obtain ⟨b, rfl⟩ := Zc2 h2
  rw [Zto]; exact ⟨⟨a, b⟩, rfl⟩)
 exact ⟨ys, rfl⟩
theorem ZzG {x : D} (h : ZiN Tryz.prog 26 x) : ∃ g : Gph, x = ZbX g := by
 obtain ⟨cs, h, rfl⟩ := h
 obtain ⟨_, _, rfl, h1, _, _, rfl, h2, _, _, rfl, h3, _, _, rfl, h4, _, _, rfl, h5, rfl⟩ := ZhQ (ts := [9, 4, 22, 23, 24]) (by kernel_rfl) h
 obtain ⟨a, rfl⟩ := Zhj h1
 obtain ⟨b, rfl⟩ := Zvu h2
 obtain ⟨c, rfl⟩ := Zt8 h3
 obtain ⟨d, rfl⟩ := Zw6 h4
 obtain ⟨e, rfl⟩ := ZtS h5
 rw [Zzz]
 exact ⟨⟨a, b, c, d, e⟩, rfl⟩
theorem ZsJ {x : D} (h : ZiN Tryz.prog 28 x) : ∃ o : Opt, x = Zfh o := by
 obtain ⟨cs, h, rfl⟩ := h
 obtain ⟨_, _, rfl, h1, _, _, rfl, h2, _, _, rfl, h3, _, _, rfl, h4, _, _, rfl, h5, rfl⟩ := ZhQ (ts := [3, 3, 3, 3, 3]) (by kernel_rfl) h
 obtain ⟨a, rfl⟩ := Zc2 h1
 obtain ⟨b, rfl⟩ := Zc2 h2
 obtain ⟨c, rfl⟩ := Zc2 h3
 obtain ⟨d, rfl⟩ := Zc2 h4
 obtain ⟨e, rfl⟩ := Zc2 h5
 rw [Zy7]
 exact ⟨⟨a, b, c, d, e⟩, rfl⟩
end Go.Proofs.YtjjbhjnpeenbkaaGreatDoor.Gr
namespace Go.Proofs.YtjjbhjnpeenbkaaGreatDoor.Gr
open Go Go.PS Go.Proofs Go.Proofs.YtjjbhjnpeenbkaaGreatDoor
open Go.Cy (NA InN Zdt Zcw)
set_option maxRecDepth 100000
attribute [local irreducible] Zab wpG Zaa Zai

theorem Zzl {g : Gph} (hs : ZbK g) : Sx.nOk (Zb8 g) = true := by
 have hbl := ZhC g
 have hbi := Zsa hs.ok
 have h256 := (Zgo hs.ok).1
 have hn8 := hs.n8
 rw [Zb8]
 generalize ZbL g = l at *
 have hlk := Zg7 l l.length
 have hbd := Zhy (g := g) (l := l) (Nat.le_refl _)
 simp only [Sx.nOk, Bool.and_eq_true, decide_eq_true_eq, Bool.not_eq_true', List.any_eq_false]
 refine ⟨⟨by omega, by omega, by rw [hbd]; omega⟩, fun b hb => ?_⟩
 rw [Zbo, List.take_of_length_le (Nat.le_refl _)] at hb
 obtain ⟨i, hi, rfl⟩ := List.mem_map.1 hb
 obtain ⟨q1, q2⟩ := ZjG hi
 obtain ⟨a, ha⟩ := Zad q1
 obtain ⟨e, he⟩ := Zad (l := g.es) (k := i) (by omega)
 rw [Ze8, ha, decide_eq_true_eq] at q2
 have h1 := hbi a (List.mem_of_getElem? ha)
 have h2 := Zl7 hs.ok he
 rw [Zkh, ha, he]
 simp [Sx.bdIn]
 omega
theorem Zuz {g : Gph} (hs : ZbK g) : Sx.SolveNo (Zb8 g) 9 ∨ ∃ r f, Sx.SolveOk (Zb8 g) r f ∧ Sx.Best g.ns.length (Zb8 g).2 r f := by
 have h := Zzl hs
 by_cases hp : ∃ p, Sx.PotB (Zb8 g).2 (Sx.zeros (Zb8 g).2) p
 ·exact .inr (Sx.solve_best (n := g.ns.length) (l := (Zb8 g).2) h hp)
 ·exact .inl (Sx.solve_none (n := g.ns.length) (l := (Zb8 g).2) h hp)
theorem ZxZ {o : Opt} (h : okO o = true) : 0 ≤ o.rd ∧ o.rd ≤ 100 := by
 simp only [okO, ZfO, Bool.and_eq_true, decide_eq_true_eq] at h
 omega
theorem ZuG {g : Gph} (o : Opt) (hm : Mod g) (h8 : g.ns.length ≤ 8) (hl : g.es.length ≤ 100) : (∃ lv n e, Zaa Tryz.prog 13 [ZbX g, Zfh o] (.tup [lvD lv, .int n, .int e]) ∧ e ≠ 0) ∨
  ∃ r f n, ZbK g ∧ okO o = true ∧ Sx.SolveOk (Zb8 g) r f ∧ Sx.Best g.ns.length (Zb8 g).2 r f ∧ (ZaO (pGr g) r).2 = 0 ∧ Zaz (ZaO (pGr g) r).1 = true ∧
   Zaa Tryz.prog 13 [ZbX g, Zfh o] (.tup [lvD (ZdF (Zb9 (ZaO (pGr g) r).1 o.rd.toNat)), .int n, .int 0]) := by
 by_cases hv : Zdq g = 0
 ·rcases ho : okO o with _ | _
  ·exact .inl ⟨_, _, _, Zzb hm hv ho, by decide⟩
  ·have hs : ZbK g := ⟨hm, hv, h8⟩
   rcases Zuz hs with h | ⟨r, f, hS, hB⟩
   ·exact .inl ⟨_, _, _, Zwt hs ho h (by decide), by decide⟩
   ·have h := Zr2 hs hl ho hS
    rw [ZiK] at h
    by_cases hb : (ZaO (pGr g) r).2 = 0
    ·rw [if_pos hb, ZgS] at h
     by_cases c : Zaz (ZaO (pGr g) r).1 = true ∧ 0 ≤ o.rd ∧ o.rd ≤ 100
     ·rw [if_pos c] at h
      exact .inr ⟨r, f, _, hs, rfl, hS, hB, hb, c.1, h⟩
     ·rw [if_neg c] at h
      exact .inl ⟨_, _, _, h, by decide⟩
    ·rw [if_neg hb] at h
     exact .inl ⟨_, _, _, h, by decide⟩
 ·exact .inl ⟨_, _, _, ZtA o hm hv, hv⟩
theorem ZxP (g : Gph) (o : Opt) : Zaa Tryz.prog 3 [ZbX g, Zfh o] (.bool true) := by
 have h9 := ZuM
 have h1 := Zv5 g 8 10 (by decide) (by decide)
 rcases c1 : Zfk g 8 10 with _ | _ <;> rw [c1] at h1
 ·refine kE Tryz.func3 ?_
  intro hat B X w0
  refine kw1 kc0 (kc2 h1 h9) ?_
  exact Zaj rfl
 ·obtain ⟨f1, f2, f3, f4⟩ := ZnX c1
  by_cases c2 : 3 < o.rd ∧ o.rd ≤ 100
  ·obtain ⟨c2, c3⟩ := c2
   refine kE Tryz.func3 ?_
   intro hat B X w0
   refine kw1 (kc2 c2 c3) (kc2 h1 h9) ?_
   exact Zaj rfl
  ·rcases ZuG o f3 f1 (by omega) with ⟨lv, n, e, h2, he⟩ | ⟨r, f, n, hs, ho, hS, hB, hb, hv, h2⟩
   ·obtain ⟨lm, ls, ar, cs⟩ := lv
    refine kE Tryz.func3 ?_
    intro hat B X w0
    refine kw1 (kc1 he) (kc3 h1 h2 h9) ?_
    all_goals first | exact Zaj rfl | (exfalso; omega)
   ·have hpl := Zqo (g := g)
    have c3 : ¬ 3 < o.rd := by have := ZxZ ho; omega
    obtain ⟨q1, q2⟩ := ZpY hb (by omega)
    generalize (ZaO (pGr g) r).1 = b at *
    have hKb := ZmJ hv q1 o.rd.toNat
    obtain ⟨hK, _, hop⟩ := Zur hKb
    have h3 := fun i : Int => ZvE _ i hK.wd (by rw [hK.arcs]; exact q2)
    have h4 := ZxN _ hK.wd
    have hzl := (ZcI hK.ok).1
    rw [← Zww, hK.ok] at h4
    generalize ZdF (Zb9 b o.rd.toNat) = z at *
    have hopt : ∀ i : Nat, i < z.2.1.length → (Zas z.2.1 i).length ≤ 8 → Zaa Tryz.prog 14 [lvD z, .int i] (.bool true) := fun i hi h8 => by
     have h := h3 i
     have hl := hK.llen i
     have hlen := hK.len
     rw [ZxT hK (by omega) (by omega) (hop i (by omega))] at h
     exact h
    obtain ⟨zn, zl, za, zc⟩ := z
    dsimp only at hopt hzl
    refine kE Tryz.func3 ?_
    intro hat B X w0
    refine kw1 (kc1 c3) (kc2 h1 h2) ?_
    refine Zaf (κ := Nat) (fun (i : Nat) => i ≤ zl.length) (fun (i : Nat) => [(5, .ptr 5 0 0 0), (8, .int i)]) (fun (i : Nat) => [(5, .cells [.int zn, .d (Zae zl), .d (Zak za), .d (Zae zc)])]) (fun (i : Nat) => zl.length - i) 0 ?_ ?_ ?_
    ·exact Nat.zero_le _
    ·exact kN kc0 []
    ·intro i hi
     rcases Nat.lt_or_ge i zl.length with hlt | hge
     ·obtain ⟨y, hy⟩ := Zad hlt
      by_cases c8 : y.length ≤ 8
      ·have h5 := hopt i hlt (by rw [Zdf hy]; exact c8)
       refine kw1 (kc2 hy c8) (kc1 h5) ?_
       refine ⟨i + 1, ?_, kN kc0 [], ?_⟩
       ·exact hlt
       ·omega
      ·refine kw1 (kc2 hy c8) kc0 ?_
       refine ⟨i + 1, ?_, kN kc0 [], ?_⟩
       ·exact hlt
       ·omega
     ·refine kw1 kc0 (kc2 h4 h9) ?_
      exact Zaj rfl
end Go.Proofs.YtjjbhjnpeenbkaaGreatDoor.Gr
