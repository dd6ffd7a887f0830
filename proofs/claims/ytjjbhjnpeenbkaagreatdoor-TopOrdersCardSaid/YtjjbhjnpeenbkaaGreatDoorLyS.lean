/- What the laws' arguments are as data. -/
import Derived.Test.YtjjbhjnpeenbkaaGreatDoorDgB
import Derived.Test.YtjjbhjnpeenbkaaGreatDoorCi
import Derived.Test.YtjjbhjnpeenbkaaGreatDoorPSStable
import Derived.Lay
import Derived.Test.YtjjbhjnpeenbkaaGreatDoorBaF
set_option linter.unusedSimpArgs false
set_option linter.unusedVariables false
set_option maxHeartbeats 16000000
namespace Go.Proofs.YtjjbhjnpeenbkaaGreatDoor.Gr
open Go Go.PS Go.Proofs Go.Proofs.YtjjbhjnpeenbkaaGreatDoor
set_option maxRecDepth 100000
theorem ZhM {n : Nat} {cs : List D} (h : Zbr Tryz.prog (n + 1) 9 cs) : ∃ s : ByteArray, cs = [Zbd s] := by
 have hu : Tryz.prog.underlying 9 = some .string := by kernel_rfl
 simp only [Zbr, hu] at h;exact h
theorem ZtV {n : Nat} {cs : List D} (h : Zbr Tryz.prog (n + 1) 4 cs) : ∃ b : Bool, cs = [.bool b] := by
 have hu : Tryz.prog.underlying 4 = some .bool := by kernel_rfl
 simp only [Zbr, hu] at h;exact h
theorem ZyJ {n : Nat} {cs : List D} (h : Zbr Tryz.prog (n + 3) 64 cs) : ∃ l : List Pt, cs = [.sl (l.map ptD)] := by
 obtain ⟨l, rfl, hl⟩ := Zkn (e := 92) (by kernel_rfl) h;obtain ⟨ys, rfl⟩ := ZiU (f := ptD) (l := l) (fun d hd => by
  obtain ⟨es, rfl, _, he⟩ := hl d hd;obtain ⟨_, _, rfl, h1, _, _, rfl, h2, rfl⟩ := ZhI (ts := [9, 3]) (by kernel_rfl) he;obtain ⟨a, rfl⟩ := ZhM h1;obtain ⟨b, rfl⟩ := ZcY h2;rw [ZvI]; exact ⟨⟨a, b⟩, rfl⟩)
 exact ⟨ys, rfl⟩
theorem Zt9 {n : Nat} {cs : List D} (h : Zbr Tryz.prog (n + 5) 22 cs) : ∃ l : List Nd, cs = [.sl (l.map ndD)] := by
 obtain ⟨l, rfl, hl⟩ := Zkn (e := 66) (by kernel_rfl) h;obtain ⟨ys, rfl⟩ := ZiU (f := ndD) (l := l) (fun d hd => by
  obtain ⟨es, rfl, _, he⟩ := hl d hd;obtain ⟨_, _, rfl, h1, _, _, rfl, h2, _, _, rfl, h3, _, _, rfl, h4, _, _, rfl, h5, _, _, rfl, h6, rfl⟩ := ZhI (ts := [9, 9, 3, 3, 3, 64]) (by kernel_rfl) he;obtain ⟨a, rfl⟩ := ZhM h1;obtain ⟨b, rfl⟩ := ZhM h2;obtain ⟨c, rfl⟩ := ZcY h3;obtain ⟨d, rfl⟩ := ZcY h4;obtain ⟨e, rfl⟩ := ZcY h5;obtain ⟨f, rfl⟩ := ZyJ h6;rw [Zwo]; exact ⟨⟨a, b, c, d, e, f⟩, rfl⟩)
 exact ⟨ys, rfl⟩
theorem Zv1 {n : Nat} {cs : List D} (h : Zbr Tryz.prog (n + 3) 23 cs) : ∃ l : List Ed, cs = [.sl (l.map edD)] := by
 obtain ⟨l, rfl, hl⟩ := Zkn (e := 61) (by kernel_rfl) h;obtain ⟨ys, rfl⟩ := ZiU (f := edD) (l := l) (fun d hd => by
  obtain ⟨es, rfl, _, he⟩ := hl d hd;obtain ⟨_, _, rfl, h1, _, _, rfl, h2, _, _, rfl, h3, _, _, rfl, h4, _, _, rfl, h5, _, _, rfl, h6, _, _, rfl, h7, rfl⟩ := ZhI (ts := [3, 3, 3, 3, 9, 3, 3]) (by kernel_rfl) he;obtain ⟨a, rfl⟩ := ZcY h1;obtain ⟨b, rfl⟩ := ZcY h2;obtain ⟨c, rfl⟩ := ZcY h3;obtain ⟨d, rfl⟩ := ZcY h4;obtain ⟨e, rfl⟩ := ZhM h5;obtain ⟨f, rfl⟩ := ZcY h6;obtain ⟨g, rfl⟩ := ZcY h7;rw [ZzO]; exact ⟨⟨a, b, c, d, e, f, g⟩, rfl⟩)
 exact ⟨ys, rfl⟩
theorem ZuR {n : Nat} {cs : List D} (h : Zbr Tryz.prog (n + 3) 24 cs) : ∃ l : List Cl, cs = [.sl (l.map clD)] := by
 obtain ⟨l, rfl, hl⟩ := Zkn (e := 94) (by kernel_rfl) h;obtain ⟨ys, rfl⟩ := ZiU (f := clD) (l := l) (fun d hd => by
  obtain ⟨es, rfl, _, he⟩ := hl d hd;obtain ⟨_, _, rfl, h1, _, _, rfl, h2, rfl⟩ := ZhI (ts := [9, 3]) (by kernel_rfl) he;obtain ⟨a, rfl⟩ := ZhM h1;obtain ⟨b, rfl⟩ := ZcY h2;rw [ZrY]; exact ⟨⟨a, b⟩, rfl⟩)
 exact ⟨ys, rfl⟩
theorem Zu3 {x : D} (h : ZhS Tryz.prog 26 x) : ∃ g : Gph, x = ZbU g := by
 obtain ⟨cs, h, rfl⟩ := h;obtain ⟨_, _, rfl, h1, _, _, rfl, h2, _, _, rfl, h3, _, _, rfl, h4, _, _, rfl, h5, rfl⟩ := ZhI (ts := [9, 4, 22, 23, 24]) (by kernel_rfl) h;obtain ⟨a, rfl⟩ := ZhM h1;obtain ⟨b, rfl⟩ := ZtV h2;obtain ⟨c, rfl⟩ := Zt9 h3;obtain ⟨d, rfl⟩ := Zv1 h4;obtain ⟨e, rfl⟩ := ZuR h5;rw [Zzy];exact ⟨⟨a, b, c, d, e⟩, rfl⟩
theorem Zvp {x : D} (h : ZhS Tryz.prog 28 x) : ∃ o : Opt, x = Zfr o := by
 obtain ⟨cs, h, rfl⟩ := h;obtain ⟨_, _, rfl, h1, _, _, rfl, h2, _, _, rfl, h3, _, _, rfl, h4, _, _, rfl, h5, rfl⟩ := ZhI (ts := [3, 3, 3, 3, 3]) (by kernel_rfl) h;obtain ⟨a, rfl⟩ := ZcY h1;obtain ⟨b, rfl⟩ := ZcY h2;obtain ⟨c, rfl⟩ := ZcY h3;obtain ⟨d, rfl⟩ := ZcY h4;obtain ⟨e, rfl⟩ := ZcY h5;rw [Zxx];exact ⟨⟨a, b, c, d, e⟩, rfl⟩
end Go.Proofs.YtjjbhjnpeenbkaaGreatDoor.Gr
namespace Go.Proofs.YtjjbhjnpeenbkaaGreatDoor.Gr
open Go Go.PS Go.Proofs Go.Proofs.YtjjbhjnpeenbkaaGreatDoor
open Go.Cy (NA InN Zdl Zct)
set_option maxRecDepth 100000
attribute [local irreducible] Zab wpG Zaa Zaf

theorem Zya {g : Gph} (hs : ZbD g) : Sx.nOk (Zb1 g) = true := by
 have hbl := Zg8 g;have hbi := Zxa hs.ok;have h256 := (Zgh hs.ok).1;have hn8 := hs.n8;rw [Zb1];generalize ZbF g = l at *;have hlk := ZhC l l.length;have hbd := Zhm (g := g) (l := l) (Nat.le_refl _);simp only [Sx.nOk, Bool.and_eq_true, decide_eq_true_eq, Bool.not_eq_true', List.any_eq_false];refine ⟨⟨by omega, by omega, by rw [hbd]; omega⟩, fun b hb => ?_⟩;rw [Zbj, List.take_of_length_le (Nat.le_refl _)] at hb;obtain ⟨i, hi, rfl⟩ := List.mem_map.1 hb;obtain ⟨q1, q2⟩ := ZjD hi;obtain ⟨a, ha⟩ := Zad q1;obtain ⟨e, he⟩ := Zad (l := g.es) (k := i) (by omega);rw [ZeV, ha, decide_eq_true_eq] at q2;have h1 := hbi a (List.mem_of_getElem? ha);have h2 := Zlw hs.ok he;rw [Zj6, ha, he];simp [Sx.bdIn];omega
theorem Zt3 {g : Gph} (hs : ZbD g) : Sx.SolveNo (Zb1 g) 9 ∨ ∃ r f, Sx.SolveOk (Zb1 g) r f ∧ Sx.Best g.ns.length (Zb1 g).2 r f := by
 have h := Zya hs;by_cases hp : ∃ p, Sx.PotB (Zb1 g).2 (Sx.zeros (Zb1 g).2) p
 ·exact .inr (Sx.solve_best (n := g.ns.length) (l := (Zb1 g).2) h hp)
 ·exact .inl (Sx.solve_none (n := g.ns.length) (l := (Zb1 g).2) h hp)
theorem Zvd {o : Opt} (h : okO o = true) : 0 ≤ o.rd ∧ o.rd ≤ 100 := by
 simp only [okO, ZfR, Bool.and_eq_true, decide_eq_true_eq] at h;omega
theorem ZwL {g : Gph} (o : Opt) (hm : Mod g) (h8 : g.ns.length ≤ 8) (hl : g.es.length ≤ 100) : (∃ lv n e, Zaa Tryz.prog 13 [ZbU g, Zfr o] (.tup [lvD lv, .int n, .int e]) ∧ e ≠ 0) ∨
  ∃ r f n, ZbD g ∧ okO o = true ∧ Sx.SolveOk (Zb1 g) r f ∧ Sx.Best g.ns.length (Zb1 g).2 r f ∧ (ZaH (pGr g) r).2 = 0 ∧ Zaw (ZaH (pGr g) r).1 = true ∧
   Zaa Tryz.prog 13 [ZbU g, Zfr o] (.tup [lvD (Zdv (Zb8 (ZaH (pGr g) r).1 o.rd.toNat)), .int n, .int 0]) := by
 by_cases hv : Zdk g = 0
 ·rcases ho : okO o with _ | _
  ·exact .inl ⟨_, _, _, ZuM hm hv ho, by decide⟩
  ·have hs : ZbD g := ⟨hm, hv, h8⟩;rcases Zt3 hs with h | ⟨r, f, hS, hB⟩
   ·exact .inl ⟨_, _, _, Zu2 hs ho h (by decide), by decide⟩
   ·have h := Zxg hs hl ho hS;rw [Zh8] at h;by_cases hb : (ZaH (pGr g) r).2 = 0
    ·rw [if_pos hb, ZgV] at h;by_cases c : Zaw (ZaH (pGr g) r).1 = true ∧ 0 ≤ o.rd ∧ o.rd ≤ 100
     ·rw [if_pos c] at h;exact .inr ⟨r, f, _, hs, rfl, hS, hB, hb, c.1, h⟩
     ·rw [if_neg c] at h;exact .inl ⟨_, _, _, h, by decide⟩
    ·rw [if_neg hb] at h;exact .inl ⟨_, _, _, h, by decide⟩
 ·exact .inl ⟨_, _, _, ZwV o hm hv, hv⟩
theorem ZuK (g : Gph) (o : Opt) : Zaa Tryz.prog 3 [ZbU g, Zfr o] (.bool true) := by
 have h9 := ZwC;have h1 := ZxS g 8 10 (by decide) (by decide);rcases c1 : Zfl g 8 10 with _ | _ <;> rw [c1] at h1
 ·refine kE Tryz.func3 ?_;intro hat B X w0;refine kw1 kc0 (kc2 h1 h9) ?_;exact Zaj rfl
 ·obtain ⟨f1, f2, f3, f4⟩ := ZoE c1;by_cases c2 : 3 < o.rd ∧ o.rd ≤ 100
  ·obtain ⟨c2, c3⟩ := c2;refine kE Tryz.func3 ?_;intro hat B X w0;refine kw1 (kc2 c2 c3) (kc2 h1 h9) ?_;exact Zaj rfl
  ·rcases ZwL o f3 f1 (by omega) with ⟨lv, n, e, h2, he⟩ | ⟨r, f, n, hs, ho, hS, hB, hb, hv, h2⟩
   ·obtain ⟨lm, ls, ar, cs⟩ := lv;refine kE Tryz.func3 ?_;intro hat B X w0;refine kw (kc1 he) (kc3 h1 h2 h9) ?_
    repeat' first | exact True.intro | refine Bn.mk ?_ ?_ | intro hc
    all_goals first | exact Zaj rfl | (exfalso; omega)
   ·have hpl := ZpO (g := g);have c3 : ¬ 3 < o.rd := by have := Zvd ho; omega
    obtain ⟨q1, q2⟩ := Zqm hb (by omega);generalize (ZaH (pGr g) r).1 = b at *;have hKb := ZmJ hv q1 o.rd.toNat;obtain ⟨hK, _, hop⟩ := Zsr hKb;have h3 := fun i : Int => Zvn _ i hK.wd (by rw [hK.arcs]; exact q2)
    have h4 := ZuB _ hK.wd;have hzl := (Zcv hK.ok).1;rw [← ZtY, hK.ok] at h4;generalize Zdv (Zb8 b o.rd.toNat) = z at *;have hopt : ∀ i : Nat, i < z.2.1.length → (Zaq z.2.1 i).length ≤ 8 → Zaa Tryz.prog 14 [lvD z, .int i] (.bool true) := fun i hi h8 => by
     have h := h3 i;have hl := hK.llen i;have hlen := hK.len;rw [ZuP hK (by omega) (by omega) (hop i (by omega))] at h;exact h
    obtain ⟨zn, zl, za, zc⟩ := z;dsimp only at hopt hzl;refine kE Tryz.func3 ?_;intro hat B X w0;refine kw (kc1 c3) (kc2 h1 h2) ?_
    repeat' first | exact True.intro | refine Bn.mk ?_ ?_ | intro hc
    refine Zai (fun (i : Nat) => i ≤ zl.length) (fun i => [(5, .ptr 5 0 0 0), (8, .int i)]) (fun i => [(5, .cells [.int zn, .d (Zae zl), .d (Zak za), .d (Zae zc)])]) (fun i => zl.length - i) 0 ?_ ?_ ?_
    ·exact Nat.zero_le _
    ·exact kN kc0 []
    ·intro i hi;rcases Nat.lt_or_ge i zl.length with hlt | hge
     ·obtain ⟨y, hy⟩ := Zad hlt;by_cases c8 : y.length ≤ 8
      ·have h5 := hopt i hlt (by rw [Zc7 hy]; exact c8);refine kw1 (kc2 hy c8) (kc1 h5) ?_;refine ⟨i + 1, ?_, eL [] _ _ (by refine ⟨?_, ?_⟩ <;> (repeat' first | exact fmn | refine fmc ⟨(by first | rfl | (simp (disch := omega) only [go_sem, simprocAttr, inL]; first | done | omega | (congr 1; done))), ?_⟩); done), ?_⟩
       ·exact hlt
       ·omega
      ·refine kw1 (kc2 hy c8) kc0 ?_;refine ⟨i + 1, ?_, eL [] _ _ (by refine ⟨?_, ?_⟩ <;> (repeat' first | exact fmn | refine fmc ⟨(by first | rfl | (simp (disch := omega) only [go_sem, simprocAttr, inL]; first | done | omega | (congr 1; done))), ?_⟩); done), ?_⟩
       ·exact hlt
       ·omega
     ·refine kw1 kc0 (kc2 h4 h9) ?_;exact Zaj rfl
end Go.Proofs.YtjjbhjnpeenbkaaGreatDoor.Gr
