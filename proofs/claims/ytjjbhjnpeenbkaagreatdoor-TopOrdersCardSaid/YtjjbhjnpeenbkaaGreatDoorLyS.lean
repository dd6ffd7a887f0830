/- What the laws' arguments are as data. -/
import Derived.Test.YtjjbhjnpeenbkaaGreatDoorDgB
import Derived.Test.YtjjbhjnpeenbkaaGreatDoorCi
import Derived.Test.YtjjbhjnpeenbkaaGreatDoorPSCmp
import Derived.Lay
import Derived.Test.YtjjbhjnpeenbkaaGreatDoorBaF
set_option linter.unusedSimpArgs false
set_option linter.unusedVariables false
set_option maxHeartbeats 16000000
namespace Go.Proofs.YtjjbhjnpeenbkaaGreatDoor.Gr
open Go Go.PS Go.Proofs Go.Proofs.YtjjbhjnpeenbkaaGreatDoor
set_option maxRecDepth 100000
theorem ZhQ {n : Nat} {cs : List D} (h : Zbo Tryz.prog (n + 1) 9 cs) : ∃ s : ByteArray, cs = [Zbf s] := by
 have hu : Tryz.prog.underlying 9 = some .string := by kernel_rfl
 simp only [Zbo, hu] at h;exact h
theorem Zsa {n : Nat} {cs : List D} (h : Zbo Tryz.prog (n + 1) 4 cs) : ∃ b : Bool, cs = [.bool b] := by
 have hu : Tryz.prog.underlying 4 = some .bool := by kernel_rfl
 simp only [Zbo, hu] at h;exact h
theorem Zyr {n : Nat} {cs : List D} (h : Zbo Tryz.prog (n + 3) 64 cs) : ∃ l : List Pt, cs = [.sl (l.map ptD)] := by
 obtain ⟨l, rfl, hl⟩ := Zjw (e := 92) (by kernel_rfl) h;obtain ⟨ys, rfl⟩ := Zil (f := ptD) (l := l) (fun d hd => by
  obtain ⟨es, rfl, _, he⟩ := hl d hd;obtain ⟨_, _, rfl, h1, _, _, rfl, h2, rfl⟩ := Zhw (ts := [9, 3]) (by kernel_rfl) he;obtain ⟨a, rfl⟩ := ZhQ h1;obtain ⟨b, rfl⟩ := ZcQ h2;rw [ZuS]; exact ⟨⟨a, b⟩, rfl⟩)
 exact ⟨ys, rfl⟩
theorem ZvL {n : Nat} {cs : List D} (h : Zbo Tryz.prog (n + 5) 22 cs) : ∃ l : List Nd, cs = [.sl (l.map ndD)] := by
 obtain ⟨l, rfl, hl⟩ := Zjw (e := 66) (by kernel_rfl) h;obtain ⟨ys, rfl⟩ := Zil (f := ndD) (l := l) (fun d hd => by
  obtain ⟨es, rfl, _, he⟩ := hl d hd;obtain ⟨_, _, rfl, h1, _, _, rfl, h2, _, _, rfl, h3, _, _, rfl, h4, _, _, rfl, h5, _, _, rfl, h6, rfl⟩ := Zhw (ts := [9, 9, 3, 3, 3, 64]) (by kernel_rfl) he;obtain ⟨a, rfl⟩ := ZhQ h1;obtain ⟨b, rfl⟩ := ZhQ h2;obtain ⟨c, rfl⟩ := ZcQ h3;obtain ⟨d, rfl⟩ := ZcQ h4;obtain ⟨e, rfl⟩ := ZcQ h5;obtain ⟨f, rfl⟩ := Zyr h6;rw [ZvR]; exact ⟨⟨a, b, c, d, e, f⟩, rfl⟩)
 exact ⟨ys, rfl⟩
theorem ZwF {n : Nat} {cs : List D} (h : Zbo Tryz.prog (n + 3) 23 cs) : ∃ l : List Ed, cs = [.sl (l.map edD)] := by
 obtain ⟨l, rfl, hl⟩ := Zjw (e := 61) (by kernel_rfl) h;obtain ⟨ys, rfl⟩ := Zil (f := edD) (l := l) (fun d hd => by
  obtain ⟨es, rfl, _, he⟩ := hl d hd;obtain ⟨_, _, rfl, h1, _, _, rfl, h2, _, _, rfl, h3, _, _, rfl, h4, _, _, rfl, h5, _, _, rfl, h6, _, _, rfl, h7, rfl⟩ := Zhw (ts := [3, 3, 3, 3, 9, 3, 3]) (by kernel_rfl) he;obtain ⟨a, rfl⟩ := ZcQ h1;obtain ⟨b, rfl⟩ := ZcQ h2;obtain ⟨c, rfl⟩ := ZcQ h3;obtain ⟨d, rfl⟩ := ZcQ h4;obtain ⟨e, rfl⟩ := ZhQ h5;obtain ⟨f, rfl⟩ := ZcQ h6;obtain ⟨g, rfl⟩ := ZcQ h7;rw [ZsA]; exact ⟨⟨a, b, c, d, e, f, g⟩, rfl⟩)
 exact ⟨ys, rfl⟩
theorem Zw4 {n : Nat} {cs : List D} (h : Zbo Tryz.prog (n + 3) 24 cs) : ∃ l : List Cl, cs = [.sl (l.map clD)] := by
 obtain ⟨l, rfl, hl⟩ := Zjw (e := 94) (by kernel_rfl) h;obtain ⟨ys, rfl⟩ := Zil (f := clD) (l := l) (fun d hd => by
  obtain ⟨es, rfl, _, he⟩ := hl d hd;obtain ⟨_, _, rfl, h1, _, _, rfl, h2, rfl⟩ := Zhw (ts := [9, 3]) (by kernel_rfl) he;obtain ⟨a, rfl⟩ := ZhQ h1;obtain ⟨b, rfl⟩ := ZcQ h2;rw [ZsR]; exact ⟨⟨a, b⟩, rfl⟩)
 exact ⟨ys, rfl⟩
theorem ZsJ {x : D} (h : Zh1 Tryz.prog 26 x) : ∃ g : Gph, x = ZbV g := by
 obtain ⟨cs, h, rfl⟩ := h;obtain ⟨_, _, rfl, h1, _, _, rfl, h2, _, _, rfl, h3, _, _, rfl, h4, _, _, rfl, h5, rfl⟩ := Zhw (ts := [9, 4, 22, 23, 24]) (by kernel_rfl) h;obtain ⟨a, rfl⟩ := ZhQ h1;obtain ⟨b, rfl⟩ := Zsa h2;obtain ⟨c, rfl⟩ := ZvL h3;obtain ⟨d, rfl⟩ := ZwF h4;obtain ⟨e, rfl⟩ := Zw4 h5;rw [Zue];exact ⟨⟨a, b, c, d, e⟩, rfl⟩
theorem ZtG {x : D} (h : Zh1 Tryz.prog 28 x) : ∃ o : Opt, x = Zfr o := by
 obtain ⟨cs, h, rfl⟩ := h;obtain ⟨_, _, rfl, h1, _, _, rfl, h2, _, _, rfl, h3, _, _, rfl, h4, _, _, rfl, h5, rfl⟩ := Zhw (ts := [3, 3, 3, 3, 3]) (by kernel_rfl) h;obtain ⟨a, rfl⟩ := ZcQ h1;obtain ⟨b, rfl⟩ := ZcQ h2;obtain ⟨c, rfl⟩ := ZcQ h3;obtain ⟨d, rfl⟩ := ZcQ h4;obtain ⟨e, rfl⟩ := ZcQ h5;rw [ZxB];exact ⟨⟨a, b, c, d, e⟩, rfl⟩
end Go.Proofs.YtjjbhjnpeenbkaaGreatDoor.Gr
namespace Go.Proofs.YtjjbhjnpeenbkaaGreatDoor.Gr
open Go Go.PS Go.Proofs Go.Proofs.YtjjbhjnpeenbkaaGreatDoor
open Go.Cy (NA InN Zdu Zcn)
set_option maxRecDepth 100000
attribute [local irreducible] Zab wpG Zaa Zaf

theorem ZzO {g : Gph} (hs : ZbD g) : Sx.nOk (ZbZ g) = true := by
 have hbl := Zhx g;have hbi := Zr1 hs.ok;have h256 := (Zge hs.ok).1;have hn8 := hs.n8;rw [ZbZ];generalize ZbH g = l at *;have hlk := Zg9 l l.length;have hbd := ZhB (g := g) (l := l) (Nat.le_refl _);simp only [Sx.nOk, Bool.and_eq_true, decide_eq_true_eq, Bool.not_eq_true', List.any_eq_false];refine ⟨⟨by omega, by omega, by rw [hbd]; omega⟩, fun b hb => ?_⟩;rw [Zbj, List.take_of_length_le (Nat.le_refl _)] at hb;obtain ⟨i, hi, rfl⟩ := List.mem_map.1 hb;obtain ⟨q1, q2⟩ := Zjx hi;obtain ⟨a, ha⟩ := Zad q1;obtain ⟨e, he⟩ := Zad (l := g.es) (k := i) (by omega);rw [Ze9, ha, decide_eq_true_eq] at q2;have h1 := hbi a (List.mem_of_getElem? ha);have h2 := Zlx hs.ok he;rw [Zjb, ha, he];simp [Sx.bdIn];omega
theorem Zs2 {g : Gph} (hs : ZbD g) : Sx.SolveNo (ZbZ g) 9 ∨ ∃ r f, Sx.SolveOk (ZbZ g) r f ∧ Sx.Best g.ns.length (ZbZ g).2 r f := by
 have h := ZzO hs;by_cases hp : ∃ p, Sx.PotB (ZbZ g).2 (Sx.zeros (ZbZ g).2) p
 ·exact .inr (Sx.solve_best (n := g.ns.length) (l := (ZbZ g).2) h hp)
 ·exact .inl (Sx.solve_none (n := g.ns.length) (l := (ZbZ g).2) h hp)
theorem Zww {o : Opt} (h : okO o = true) : 0 ≤ o.rd ∧ o.rd ≤ 100 := by
 simp only [okO, Zgb, Bool.and_eq_true, decide_eq_true_eq] at h;omega
theorem Zvk {g : Gph} (o : Opt) (hm : Mod g) (h8 : g.ns.length ≤ 8) (hl : g.es.length ≤ 100) : (∃ lv n e, Zaa Tryz.prog 13 [ZbV g, Zfr o] (.tup [lvD lv, .int n, .int e]) ∧ e ≠ 0) ∨
  ∃ r f n, ZbD g ∧ okO o = true ∧ Sx.SolveOk (ZbZ g) r f ∧ Sx.Best g.ns.length (ZbZ g).2 r f ∧ (ZaI (pGr g) r).2 = 0 ∧ Zax (ZaI (pGr g) r).1 = true ∧
   Zaa Tryz.prog 13 [ZbV g, Zfr o] (.tup [lvD (Zdv (Zb9 (ZaI (pGr g) r).1 o.rd.toNat)), .int n, .int 0]) := by
 by_cases hv : Zdt g = 0
 ·rcases ho : okO o with _ | _
  ·exact .inl ⟨_, _, _, ZtX hm hv ho, by decide⟩
  ·have hs : ZbD g := ⟨hm, hv, h8⟩;rcases Zs2 hs with h | ⟨r, f, hS, hB⟩
   ·exact .inl ⟨_, _, _, ZtH hs ho h (by decide), by decide⟩
   ·have h := ZrU hs hl ho hS;rw [Zi0] at h;by_cases hb : (ZaI (pGr g) r).2 = 0
    ·rw [if_pos hb, Zg2] at h;by_cases c : Zax (ZaI (pGr g) r).1 = true ∧ 0 ≤ o.rd ∧ o.rd ≤ 100
     ·rw [if_pos c] at h;exact .inr ⟨r, f, _, hs, rfl, hS, hB, hb, c.1, h⟩
     ·rw [if_neg c] at h;exact .inl ⟨_, _, _, h, by decide⟩
    ·rw [if_neg hb] at h;exact .inl ⟨_, _, _, h, by decide⟩
 ·exact .inl ⟨_, _, _, ZAf o hm hv, hv⟩
theorem Zzb (g : Gph) (o : Opt) : Zaa Tryz.prog 3 [ZbV g, Zfr o] (.bool true) := by
 have h9 := Zs9;have h1 := Zsg g 8 10 (by decide) (by decide);rcases c1 : Zfx g 8 10 with _ | _ <;> rw [c1] at h1
 ·refine kE Tryz.func3 ?_;intro hat B X w0;refine kw1 kO kc0 (kc2 h1 h9) ?_;exact Zaj rfl
 ·obtain ⟨f1, f2, f3, f4⟩ := ZnQ c1;by_cases c2 : 3 < o.rd ∧ o.rd ≤ 100
  ·obtain ⟨c2, c3⟩ := c2;refine kE Tryz.func3 ?_;intro hat B X w0;refine kw1 kO (kc2 c2 c3) (kc2 h1 h9) ?_;exact Zaj rfl
  ·rcases Zvk o f3 f1 (by omega) with ⟨lv, n, e, h2, he⟩ | ⟨r, f, n, hs, ho, hS, hB, hb, hv, h2⟩
   ·obtain ⟨lm, ls, ar, cs⟩ := lv;refine kE Tryz.func3 ?_;intro hat B X w0;refine kw kO (kc1 he) (kc3 h1 h2 h9) ?_
    repeat' first | exact True.intro | refine Bn.mk ?_ ?_ | intro hc
    all_goals first | exact Zaj rfl | (exfalso; omega)
   ·have hpl := Zqt (g := g);have c3 : ¬ 3 < o.rd := by have := Zww ho; omega
    obtain ⟨q1, q2⟩ := ZoH hb (by omega);generalize (ZaI (pGr g) r).1 = b at *;have hKb := Zl4 hv q1 o.rd.toNat;obtain ⟨hK, _, hop⟩ := Zxd hKb;have h3 := fun i : Int => Zwr _ i hK.wd (by rw [hK.arcs]; exact q2)
    have h4 := ZxY _ hK.wd;have hzl := (Zcz hK.ok).1;rw [← ZyS, hK.ok] at h4;generalize Zdv (Zb9 b o.rd.toNat) = z at *;have hopt : ∀ i : Nat, i < z.2.1.length → (Zaq z.2.1 i).length ≤ 8 → Zaa Tryz.prog 14 [lvD z, .int i] (.bool true) := fun i hi h8 => by
     have h := h3 i;have hl := hK.llen i;have hlen := hK.len;rw [Zy1 hK (by omega) (by omega) (hop i (by omega))] at h;exact h
    obtain ⟨zn, zl, za, zc⟩ := z;dsimp only at hopt hzl;refine kE Tryz.func3 ?_;intro hat B X w0;refine kw kO (kc1 c3) (kc2 h1 h2) ?_
    repeat' first | exact True.intro | refine Bn.mk ?_ ?_ | intro hc
    refine Zai (fun (i : Nat) => i ≤ zl.length) (fun i => [(5, .ptr 5 0 0 0), (8, .int i)]) (fun i => [(5, .cells [.int zn, .d (Zae zl), .d (Zak za), .d (Zae zc)])]) (fun i => zl.length - i) 0 ?_ ?_ ?_
    ·exact Nat.zero_le _
    ·exact kN kc0 []
    ·intro i hi;rcases Nat.lt_or_ge i zl.length with hlt | hge
     ·obtain ⟨y, hy⟩ := Zad hlt;by_cases c8 : y.length ≤ 8
      ·have h5 := hopt i hlt (by rw [Zc0 hy]; exact c8);refine kw1 kO (kc2 hy c8) (kc1 h5) ?_;refine ⟨i + 1, ?_, eL [] _ _ (by refine ⟨?_, ?_⟩ <;> (repeat' first | exact fmn | refine fmc ⟨(by first | rfl | (simp (disch := omega) only [go_sem, simprocAttr, inL]; first | done | omega | (congr 1; done))), ?_⟩); done), ?_⟩
       ·exact hlt
       ·omega
      ·refine kw1 kO (kc2 hy c8) kc0 ?_;refine ⟨i + 1, ?_, eL [] _ _ (by refine ⟨?_, ?_⟩ <;> (repeat' first | exact fmn | refine fmc ⟨(by first | rfl | (simp (disch := omega) only [go_sem, simprocAttr, inL]; first | done | omega | (congr 1; done))), ?_⟩); done), ?_⟩
       ·exact hlt
       ·omega
     ·refine kw1 kO kc0 (kc2 h4 h9) ?_;exact Zaj rfl
end Go.Proofs.YtjjbhjnpeenbkaaGreatDoor.Gr
