/- Barycenters: layers, sweeps, rounds, by the program and by the reference. -/
import Derived.Test.YtjjbhjnpeenbkaaGreatDoorBaS4
import Derived.Test.YtjjbhjnpeenbkaaGreatDoorStE
import Derived.Test.YtjjbhjnpeenbkaaGreatDoorD
import Derived.Test.YtjjbhjnpeenbkaaGreatDoorTypes
set_option linter.unusedSimpArgs false
set_option linter.unusedVariables false
set_option maxHeartbeats 16000000
namespace Go.Proofs.YtjjbhjnpeenbkaaGreatDoor
open Go Go.PS Go.Proofs
open Go.Stb
set_option maxRecDepth 100000
attribute [local irreducible] Zab wpG Zaa Zaf

theorem Zzx (a : Lv) (h : Zaw a = true) : Zaa Tryz.prog 165 [lvD a] (lvD a) := by
 obtain ⟨s1, s2, s3⟩ := Zhd h;obtain ⟨t1, t2⟩ := Zcv h;have hca := Zla a.2.2.1 (by omega);have hl1 : ∀ (k : Nat) x, a.2.1[k]? = some x → Zaa Tryz.prog 214 [Zac x] (Zac x) := fun k x hx => Zhh x (by have := ZcM (List.mem_of_getElem? hx); omega)
 have hl2 : ∀ (k : Nat) x, a.2.2.2[k]? = some x → Zaa Tryz.prog 214 [Zac x] (Zac x) := fun k x hx => Zhh x (by have := s3 x (List.mem_of_getElem? hx); omega)
 obtain ⟨n, ls, ar, cs⟩ := a;dsimp only at *;refine kE Tryz.func165 ?_;intro hat B X w0;refine kw1 kc0 (kc1 hca) ?_;refine Zau _ (Zcy 3 1 901 1 rfl rfl rfl) ?_;refine Zai (fun (k : Nat) => k ≤ ls.length) (fun k => [(1, .ptr 1 0 0 0), (2, .ptr 2 0 0 0), (3, .ptr 3 0 0 0), (15, .d (Zae ls)), (16, .int ls.length), (17, .int k)]) (fun k => [(1, .cells [.int n, .d (Zae ls), .d (Zak ar), .d (Zae cs)]), (2, .cells [.int 0, .nilS, .nilS, .nilS]), (3, .cells [.int n, .ref 901 1 0 k k, .d (Zak ar), .nilS]), (901, .row 1 ((ls.take k).map Zac))]) (fun k => ls.length - k) 0 ?_ ?_ ?_
 ·exact Nat.zero_le _
 ·exact kN (kc2 @List.take_zero.{0} @List.map_nil.{0,0}) []
 ·intro k hk;have hlk : (ls.take k).length = k := by rw [List.length_take]; omega
  have htk : ((ls.take k).map Zac).take k = (ls.take k).map Zac := List.take_of_length_le (by rw [List.length_map, hlk]; exact Nat.le_refl _);rcases Nat.lt_or_ge k ls.length with hlt | hge
  ·obtain ⟨x, hx⟩ := Zad hlt;have hc1 := hl1 k x hx;have e1 := ZaD hx;refine kw1 (kc3 hx hlk htk) (kc1 hc1) ?_;refine ⟨k + 1, ?_, kN (kc5 e1 htk @List.map_append.{0,0} @List.map_cons.{0,0} @List.map_nil.{0,0}) [(901, 26)], ?_⟩
   ·omega
   ·omega
  ·have : k = ls.length := by omega
   subst this
   try dsimp only
   rw [List.take_length];refine kw1 kc0 kc0 ?_;refine Zau _ (Zcy 3 3 902 1 rfl rfl rfl) ?_;refine Zai (fun (k : Nat) => k ≤ cs.length) (fun k => [(2, .ptr 2 0 0 0), (3, .ptr 3 0 0 0), (30, .d (Zae cs)), (31, .int cs.length), (32, .int k)]) (fun k => [(2, .cells [.int 0, .nilS, .nilS, .nilS]), (3, .cells [.int n, .ref 901 1 0 ls.length ls.length, .d (Zak ar), .ref 902 1 0 k k]), (901, .row 1 (ls.map Zac)), (902, .row 1 ((cs.take k).map Zac))]) (fun k => cs.length - k) 0 ?_ ?_ ?_
   ·exact Nat.zero_le _
   ·exact kN (kc2 @List.take_zero.{0} @List.map_nil.{0,0}) []
   ·intro k hk;have hlk : (cs.take k).length = k := by rw [List.length_take]; omega
    have htk : ((cs.take k).map Zac).take k = (cs.take k).map Zac := List.take_of_length_le (by rw [List.length_map, hlk]; exact Nat.le_refl _);rcases Nat.lt_or_ge k cs.length with hlt | hge
    ·obtain ⟨x, hx⟩ := Zad hlt;have hc1 := hl2 k x hx;have e1 := ZaD hx;refine kw1 (kc3 hx hlk htk) (kc1 hc1) ?_;refine ⟨k + 1, ?_, kN (kc5 e1 htk @List.map_append.{0,0} @List.map_cons.{0,0} @List.map_nil.{0,0}) [(902, 41)], ?_⟩
     ·omega
     ·omega
    ·have : k = cs.length := by omega
     subst this
     try dsimp only
     rw [List.take_length];refine kw1 kc0 kc0 ?_;refine ⟨_, _, _, _, rfl, ?_⟩;simp (disch := omega) only [go_sem, simprocAttr, toD, List.length_map, Nat.le_refl, List.drop_zero];rw [Zat, Zat]
theorem Zw8 (a : Lv) (hw : wide a) (hv : Zaw a = true) (har : a.2.2.1.length ≤ 700) : Zaa Tryz.prog 166 [lvD a] (lvD (swB a)) := by
 obtain ⟨t1, t2⟩ := Zcv hv;have hkd := Zmw (Kin.refl hv hw);have hku := fun k hk => Zm7 (hkd (a.2.1.length - 1) (Nat.le_refl _)) k hk
 have h1 : ∀ k, k + 1 < a.2.1.length → Zaa Tryz.prog 215 [lvD (Zdn a k), .int (k + 1 : Nat), .int k] (lvD (Zdn a (k + 1))) := fun k hk => by
  have hK := hkd k (by omega);exact Zq9 (Zdn a k) (k + 1) k hK.wd hK.ok (by rw [hK.arcs]; exact har) (by rw [hK.len]; omega) (by rw [hK.len]; omega)
 have h2 : ∀ k, k + 1 < a.2.1.length → Zaa Tryz.prog 215 [lvD (upB (Zdn a (a.2.1.length - 1)) a.2.1.length k), .int (a.2.1.length - 2 - k : Nat), .int (a.2.1.length - 1 - k : Nat)] (lvD (upB (Zdn a (a.2.1.length - 1)) a.2.1.length (k + 1))) := fun k hk => by
  have hK := hku k (by omega);exact Zq9 _ (a.2.1.length - 2 - k) (a.2.1.length - 1 - k) hK.wd hK.ok (by rw [hK.arcs]; exact har) (by rw [hK.len]; omega) (by rw [hK.len]; omega)
 have hl1 : ∀ k, k ≤ a.2.1.length - 1 → (Zdn a k).2.1.length = a.2.1.length := fun k hk => (hkd k hk).len
 rw [swB];have hd0 : Zdn a 0 = a := rfl;have hu0 : upB (Zdn a (a.2.1.length - 1)) a.2.1.length 0 = Zdn a (a.2.1.length - 1) := rfl;clear hkd hku;obtain ⟨N, hN⟩ : ∃ N, N = a.2.1.length := ⟨_, rfl⟩;rw [← hN] at h1 h2 hl1 hu0 t1 ⊢;generalize upB (Zdn a (N - 1)) N = U at *;generalize Zdn a = W at *;rw [← hd0] at hN;rw [show a = W 0 from hd0.symm];clear hd0;refine kE Tryz.func166 ?_;intro hat B X w0;refine kw1 kc0 kc0 ?_;refine Zai (fun (k : Nat) => k ≤ N - 1) (fun k => [(1, .ptr 1 0 0 0), (2, .ptr 2 0 0 0), (3, .int (k + 1 : Nat))]) (fun k => [(1, .cells [.int (W k).1, .d (Zae (W k).2.1), .d (Zak (W k).2.2.1), .d (Zae (W k).2.2.2)]), (2, .cells [.int 0, .nilS, .nilS, .nilS])]) (fun k => N - k) 0 ?_ ?_ ?_
 ·exact Nat.zero_le _
 ·exact kN (kc2 @Nat.zero_add @Int.natCast_one) []
 ·intro k hk;have hl := hl1 k hk;have e1 : ((k + 1 : Nat) : Int) - 1 = (k : Int) := by omega
  have e2 : ((k + 1 : Nat) : Int) + 1 = ((k + 1 + 1 : Nat) : Int) := by omega
  rcases Nat.lt_or_ge (k + 1) N with hlt | hge
  ·have c1 := h1 k hlt;refine kw1 (kc3 hl e1 e2) (kc1 c1) ?_;refine ⟨k + 1, ?_, kN kc0 [], ?_⟩
   ·omega
   ·omega
  ·have : k = N - 1 := by omega
   subst this;rw [← hu0] at hl ⊢;clear hu0 h1;refine kw1 (kc1 hl) kc0 ?_;refine Zai (fun (k : Nat) => k ≤ N - 1) (fun k => [(1, .ptr 1 0 0 0), (2, .ptr 2 0 0 0), (4, .int ((N : Int) - 2 - k))]) (fun k => [(1, .cells [.int (U k).1, .d (Zae (U k).2.1), .d (Zak (U k).2.2.1), .d (Zae (U k).2.2.2)]), (2, .cells [.int 0, .nilS, .nilS, .nilS])]) (fun k => N - k) 0 ?_ ?_ ?_
   ·exact Nat.zero_le _
   ·exact kN (kc2 @Int.natCast_zero @Int.sub_zero) []
   ·intro k hk;rcases Nat.lt_or_ge (k + 1) N with hlt | hge
    ·have c1 := h2 k hlt;have e3 : (N : Int) - 2 - k = ((N - 2 - k : Nat) : Int) := by omega
     have e4 : ((N - 2 - k : Nat) : Int) + 1 = ((N - 1 - k : Nat) : Int) := by omega
     have e5 : ((N - 2 - k : Nat) : Int) - 1 = (N : Int) - 2 - ((k + 1 : Nat) : Int) := by omega
     rw [e3];refine kw1 (kc2 e4 e5) (kc1 c1) ?_;refine ⟨k + 1, ?_, kN kc0 [], ?_⟩
     ·omega
     ·omega
    ·have : k = N - 1 := by omega
     subst this;refine kw1 kc0 kc0 ?_;refine ⟨_, _, _, _, rfl, ?_⟩;simp (disch := omega) only [go_sem, simprocAttr, toD]
theorem ZxX (r : Int) : (if (100 : Int) < (if r < 0 then 0 else r) then (100 : Int) else (if r < 0 then 0 else r)) = (Zfq r : Int) := by
 rw [Zfq]; split <;> split <;> omega
theorem Zv3 (a : Lv) (r : Int) (hw : wide a) (har : a.2.2.1.length ≤ 700) : Zaa Tryz.prog 103 [lvD a, .int r] (.tup [lvD (ZjO a r).1, .int (ZjO a r).2]) := by
 have h1 := ZgB a hw;rw [ZjO];rcases hv : Zaw a with _ | _ <;> rw [hv] at h1
 ·rw [if_neg (by decide)];refine kE Tryz.func103 ?_;intro hat B X w0;refine kw1 kc0 (kc1 h1) ?_;refine ⟨_, rfl, ⟨_, _, _, _, rfl, ?_⟩, Zag rfl, trivial⟩;simp (disch := omega) only [go_sem, simprocAttr, toD];rfl
 ·rw [if_pos rfl];obtain ⟨t1, t2⟩ := Zcv hv;have h2 := Zzx a hv;have hk := ZlE hv hw;have h3 : ∀ k, Zaa Tryz.prog 166 [lvD (Zc5 a k)] (lvD (Zc5 a (k + 1))) := fun k => Zw8 _ (hk k).wd (hk k).ok (by rw [(hk k).arcs]; exact har)
  have h4 : ∀ k, Zaa Tryz.prog 105 [lvD (Zc5 a k)] (.int (Za6 (Zc5 a k))) := fun k => Zqn _ (hk k).wd (by rw [(hk k).len]; omega)
  have hbs : ∀ k, Zb8 a (k + 1) = if Za6 (Zc5 a (k + 1)) < Za6 (Zb8 a k) then Zc5 a (k + 1) else Zb8 a k := fun _ => rfl
  have hb0 : Zb8 a 0 = Zc5 a 0 := rfl;have hn0 : Zc5 a 0 = a := rfl;have hre := ZxX r;have hr100 : Zfq r ≤ 100 := by rw [Zfq]; omega
  dsimp only;generalize Zfq r = R at *;rw [← hn0] at h1 h2;rw [show a = Zc5 a 0 from rfl];rw [show Zb8 (Zc5 a 0) = Zb8 a from rfl];clear hk hn0;generalize Zc5 a = W at *;generalize Zb8 a = Bs at *;refine kE Tryz.func103 ?_;intro hat B X w0;have h40 := h4 0;refine kw1 (kc1 hre) (kc3 h1 h2 h40) ?_;refine Zai (fun (k : Nat) => k ≤ R) (fun k => [(2, .ptr 2 0 0 0), (4, .ptr 4 0 0 0), (6, .ptr 6 0 0 0), (7, .int (Za6 (Bs k))), (20, .int R), (21, .int k)]) (fun k => [(2, .cells [.int (W k).1, .d (Zae (W k).2.1), .d (Zak (W k).2.2.1), .d (Zae (W k).2.2.2)]), (4, .cells [.int 0, .nilS, .nilS, .nilS]), (6, .cells [.int (Bs k).1, .d (Zae (Bs k).2.1), .d (Zak (Bs k).2.2.1), .d (Zae (Bs k).2.2.2)])]) (fun k => R - k) 0 ?_ ?_ ?_
  ·exact Nat.zero_le _
  ·exact kN (kc1 hb0) []
  ·intro k hk;rcases Nat.lt_or_ge k R with hlt | hge
   ·have c1 := h3 k;have c2 := h4 (k + 1);have e1 := hbs k;by_cases c : Za6 (W (k + 1)) < Za6 (Bs k)
    ·rw [if_pos c] at e1;refine kw1 (kc1 c) (kc2 c1 c2) ?_;refine ⟨k + 1, ?_, kN (kc1 e1) [], ?_⟩
     ·omega
     ·omega
    ·rw [if_neg c] at e1;refine kw1 (kc1 c) (kc2 c1 c2) ?_;refine ⟨k + 1, ?_, kN (kc1 e1) [], ?_⟩
     ·omega
     ·omega
   ·have : k = R := by omega
    subst this;refine kw1 kc0 kc0 ?_;refine ⟨_, rfl, ⟨_, _, _, _, rfl, ?_⟩, Zag rfl, trivial⟩;simp (disch := omega) only [go_sem, simprocAttr, toD]
/-! The reference. -/
end Go.Proofs.YtjjbhjnpeenbkaaGreatDoor
namespace Go.Proofs.YtjjbhjnpeenbkaaGreatDoor
open Go Go.PS Go.Proofs
set_option maxRecDepth 100000
attribute [local irreducible] Zab wpG Zaa Zaf

theorem ZtN (a : Lv) (i : Nat) (u v : Nat) : Zdo a [] (Zaq a.2.1 i) 0 i 0 u v = 0 := by
 rw [Zdo, ZhF]; split <;> rfl
theorem Zy5 (a : Lv) (i : Nat) (hw : wide a) (hv : Zaw a = true) (hil : i < a.2.1.length) :
  Zaa Tryz.prog 109 [lvD a, .int i] (Zae (orM a i)) := by
 obtain ⟨y, hy⟩ := Zad hil;obtain ⟨t1, t2⟩ := Zcv hv;have hyl := ZcM (List.mem_of_getElem? hy);have hacc := Zi9 a [] (Zaq a.2.1 i) (w := 0) (by decide) i;have haccS : ∀ t u v, Zdo a [] (Zaq a.2.1 i) 0 i (t + 1) u v = Zdo a [] (Zaq a.2.1 i) 0 i t u v + Zah (ZaQ a i (ZdV i t)) u v := fun _ _ _ => rfl
 have haccZ := ZtN a i;have hMsq : ∀ t, Sq (ZaQ a i (ZdV i t)) := fun t => Zjj a i (ZdV i t)
 have hMlen : ∀ t, (ZaQ a i (ZdV i t)).length = 0 ∨ (ZaQ a i (ZdV i t)).length = y.length := fun t => by
  rw [ZaQ];split
  ·right
   simp [Zcz, Za8, Zci, hy]
  ·left; rfl
 have hMs : ∀ t, Zaa Tryz.prog 177 [lvD a, .int i, .int (ZdV i t)] (Zae (ZaQ a i (ZdV i t))) := fun t => Zrf a i (ZdV i t) hw
 rw [orM, stM];rw [Zc7 hy] at *;generalize Zdo a [] y 0 i = A at *;obtain ⟨Q, hQ⟩ : ∃ Q : Nat → List (List Int), ∀ t, ZaQ a i (ZdV i t) = Q t := ⟨_, fun _ => rfl⟩;simp only [hQ] at *;obtain ⟨N, hN⟩ : ∃ N, N = y.length := ⟨_, rfl⟩;have hN5 : N ≤ 512 := by omega
 obtain ⟨n, ls, ar, cs⟩ := a;dsimp only at *;refine kE Tryz.func109 ?_;intro hat B X w0;refine kw1 (kc2 hy hN.symm) kc0 ?_;refine Zau _ (Zif 1 19 1 N rfl (fun i hi => by simp (disch := omega) only [go_sem, simprocAttr, ZiX, ZdK]) (by decide) (by decide)) ?_;have hiN : ∀ (k : Nat) (x y : List D), k < N → (if k < N then x else y) = x := fun k x y h => if_pos h
 have hz : ∀ u, List.replicate N (D.int 0) = (ZaX (A 0 u) N).map D.int := fun u => by
  rw [ZpX]; congr 1; exact Zgp fun v _ => (haccZ u v).symm
 refine Zd1 (fun (u : Nat) => u ≤ N) (fun u => [(1, .int i), (2, .ptr 2 0 0 0), (5, .ref 19 1 0 N N), (21, .int N), (22, .int u)]) (fun u => [⟨1, 19, 1, N, fun k => if k < u then (ZaX (A 0 k) N).map D.int else []⟩]) (fun u => [(2, .cells [.int n, .d (Zae ls), .d (Zak ar), .d (Zae cs)])]) (fun u => N - u) 0 ?_ ?_ ?_
 ·exact Nat.zero_le _
 ·refine kF (kc1 hN.symm) [] [] ?_;exact kT0 (kc1 @Nat.not_lt_zero)
 ·intro u hu;rcases Nat.lt_or_ge u N with hlt | hge
  ·have hzu := hz u;have hnu : ¬ u < u := by omega
   have hrl := ZdF (A 0 u) N;have hsu : ∀ i, i ≠ u → ((i < u + 1) = (i < u)) := fun i h => propext (by omega)
   refine Zau _ (ZeN _ _ [2, 19] 19 u 900 1 1 N (by first | rfl | (simp (disch := omega) only [go_sem, simprocAttr, hnu]; done) | (simp (disch := omega) only [go_sem, simprocAttr, hnu]; rfl)) (by first | (simp (disch := omega) only [go_sem, simprocAttr, hnu]; done) | (simp (disch := omega) only [go_sem, simprocAttr, hnu]; rfl)) (by first | (simp (disch := omega) only [go_sem, simprocAttr, hnu]; done) | (simp (disch := omega) only [go_sem, simprocAttr, hnu]; rfl)) (fun i hi hne => by simp (disch := omega) only [go_sem, simprocAttr, hne, hnu]; (repeat' split) <;> exact .ref _ _ _ _ _ ⟨by simp (disch := omega) only [go_sem, simprocAttr, hne, hnu], by simp (disch := omega) only [go_sem, simprocAttr, hne, hnu]⟩) (by (repeat' first | refine ZeM ?_ | exact ZeR (ids := [2, 19]) rfl rfl (Nat.le_of_ble_eq_true rfl) | refine Ze1 ?_ | refine Zfb ?_ | refine ZeS ?_ | refine ZeH ?_ | refine ZeI ?_ | refine Ze4 (by dsimp only; omega) (by dsimp only; omega) (by omega) (by omega) (Nat.le_of_ble_eq_true rfl) ?_); done) rfl rfl rfl) ?_;refine kw1 (kc2 hN.symm hnu) kc0 ?_;refine ⟨u + 1, ?_, kF kc0 [(fid 1 u, 29)] [] ?_, ?_⟩
   ·omega
   ·exact kT1 (kc6 hzu hrl hnu hsu @Nat.lt_add_one @List.length_map.{0,0}) u
   ·omega
  ·have : N = u := by omega
   subst this
   try dsimp only
   obtain ⟨F, hF⟩ : ∃ F : List D, F = [D.int ((i : Int) - 1), D.int ((i : Int) + 1)] := ⟨_, rfl⟩;have hFl : F.length = 2 := by rw [hF]; rfl
   have hFx : ∀ t, t < 2 → F[t]? = some (D.int (ZdV i t)) := fun t ht => by
    rw [hF];rcases t with _ | _ | t
    ·rfl
    ·rfl
    ·omega
   refine kw1 kc0 kc0 ?_;refine Zd1 (fun (t : Nat) => t ≤ 2) (fun t => [(1, .int i), (2, .ptr 2 0 0 0), (5, .ref 19 1 0 N N), (36, .d (.sl F)), (37, .int 2), (38, .int t)]) (fun t => [⟨1, 19, 1, N, fun k => (ZaX (A t k) N).map D.int⟩]) (fun t => [(2, .cells [.int n, .d (Zae ls), .d (Zak ar), .d (Zae cs)])]) (fun t => 2 - t) 0 ?_ ?_ ?_
   ·exact Nat.zero_le _
   ·refine kF (kc1 hF) [] [] ?_
    repeat' first | exact fmn | refine fmc ⟨?_, ?_⟩
    all_goals refine ⟨_, (by first | rfl | (simp (disch := omega) only [go_sem, simprocAttr, hiN]; done) | (simp (disch := omega) only [go_sem, simprocAttr, hiN]; rfl)), fun i hi => ?_⟩
    all_goals dsimp only at hi ⊢
    all_goals try (exfalso; omega)
    all_goals try (simp (disch := omega) only [go_sem, simprocAttr, hiN, ZeZ, ZeU]; done)
   ·intro t ht;rcases Nat.lt_or_ge t 2 with hlt2 | hge2
    ·have hx := hFx t hlt2;have hM := hMs t;have hsq := hMsq t;have hml := hMlen t;have hS := haccS t;generalize hR : Q t = R at *;refine kw1 (kc1 hx) (kc1 hM) ?_;refine Zd1 (fun (c : Nat) => c ≤ R.length) (fun c => [(1, .int i), (2, .ptr 2 0 0 0), (5, .ref 19 1 0 N N), (36, .d (.sl F)), (37, .int 2), (38, .int t), (45, .d (Zae R)), (46, .int R.length), (47, .int c)]) (fun c => [⟨1, 19, 1, N, fun k => if k < c then (ZaX (A (t + 1) k) N).map D.int else (ZaX (A t k) N).map D.int⟩]) (fun c => [(2, .cells [.int n, .d (Zae ls), .d (Zak ar), .d (Zae cs)])]) (fun c => R.length - c) 0 ?_ ?_ ?_
     ·exact Nat.zero_le _
     ·refine kF (kc1 hFl) [] [] ?_;exact kT0 (kc1 @Nat.not_lt_zero)
     ·intro c hc0;rcases Nat.lt_or_ge c R.length with hlc | hgc
      ·have hRN : R.length = N := by omega
       obtain ⟨r, hr⟩ := Zad hlc;have hrl := hsq.row r (List.mem_of_getElem? hr);have hrN : r.length = N := by omega
       have hnu : ¬ c < c := by omega
       refine kw1 (kc2 hr hrN) kc0 ?_;refine Zd1 (fun (b : Nat) => b ≤ N) (fun b => [(1, .int i), (2, .ptr 2 0 0 0), (5, .ref 19 1 0 N N), (9, .int c), (36, .d (.sl F)), (37, .int 2), (38, .int t), (45, .d (Zae R)), (46, .int R.length), (47, .int c), (52, .d (Zac r)), (53, .int N), (54, .int b)]) (fun b => [⟨1, 19, 1, N, fun k => if k < c then (ZaX (A (t + 1) k) N).map D.int else if k = c then (Zcg (A t c) (A (t + 1) c) N b).map D.int else (ZaX (A t k) N).map D.int⟩]) (fun b => [(2, .cells [.int n, .d (Zae ls), .d (Zak ar), .d (Zae cs)])]) (fun b => N - b) 0 ?_ ?_ ?_
       ·exact Nat.zero_le _
       ·refine kF (kc1 hrN) [] [] ?_;exact kT1 (kc2 hnu @ZqG) c
       ·intro b hb;have hfl2 := Zia (A t c) (A (t + 1) c) N b;rcases Nat.lt_or_ge b N with hlb | hgb
        ·obtain ⟨p, hp, _, hpv, g1, g2⟩ := hsq.get hlc (show b < R.length by omega);rw [hr, Option.some.injEq] at hp;rw [← hp] at hpv;have hcell := hS c b;have ha := hacc t c b;have hg : (Zcg (A t c) (A (t + 1) c) N b)[b]? = some (A t c b) := Zp4 hlb;have hst : (Zcg (A t c) (A (t + 1) c) N b).set b (A (t + 1) c b) = Zcg (A t c) (A (t + 1) c) N (b + 1) := ZnO hlb;rw [hcell] at hst;refine Zau _ (ZeN _ _ [2, 19] 19 c 900 1 1 N (by first | rfl | (simp (disch := omega) only [go_sem, simprocAttr, hnu, hfl2]; done) | (simp (disch := omega) only [go_sem, simprocAttr, hnu, hfl2]; rfl)) (by first | (simp (disch := omega) only [go_sem, simprocAttr, hnu, hfl2]; done) | (simp (disch := omega) only [go_sem, simprocAttr, hnu, hfl2]; rfl)) (by first | (simp (disch := omega) only [go_sem, simprocAttr, hnu, hfl2]; done) | (simp (disch := omega) only [go_sem, simprocAttr, hnu, hfl2]; rfl)) (fun i hi hne => by simp (disch := omega) only [go_sem, simprocAttr, hne, hnu, hfl2]; (repeat' split) <;> exact .ref _ _ _ _ _ ⟨by simp (disch := omega) only [go_sem, simprocAttr, hne, hnu, hfl2], by simp (disch := omega) only [go_sem, simprocAttr, hne, hnu, hfl2]⟩) (by (repeat' first | refine ZeM ?_ | exact ZeR (ids := [2, 19]) rfl rfl (Nat.le_of_ble_eq_true rfl) | refine Ze1 ?_ | refine Zfb ?_ | refine ZeS ?_ | refine ZeH ?_ | refine ZeI ?_ | refine Ze4 (by dsimp only; omega) (by dsimp only; omega) (by omega) (by omega) (Nat.le_of_ble_eq_true rfl) ?_); done) rfl rfl rfl) ?_;refine kw1 (kc6 hr hrN hpv hg hfl2 hnu) kc0 ?_;refine ⟨b + 1, ?_, kF kc0 [(fid 1 c, 900)] [] ?_, ?_⟩
         ·omega
         ·exact kT1 (kc6 @hst.symm @List.map_set.{0,0} @List.length_set.{0} @List.length_map.{0,0} hfl2 hnu) c
         ·omega
        ·have : N = b := by omega
         subst this;have hsu : ∀ i, i ≠ c → ((i < c + 1) = (i < c)) := fun i h => propext (by omega)
         refine kw1 kc0 kc0 ?_;refine ⟨c + 1, ?_, kF kc0 [] [] ?_, ?_⟩
         ·omega
         ·exact kT1 (kc4 hnu hsu @Nat.lt_add_one @ZnU) c
         ·omega
      ·have : R.length = c := by omega
       subst this;refine kw1 kc0 kc0 ?_;rcases hml with hml | hml
       ·have hsame : ∀ k, ZaX (A (t + 1) k) N = ZaX (A t k) N := fun k => Zgp fun v _ => by
         rw [hS, Zah, ZhL (by omega)]; simp [at0]
        refine ⟨t + 1, ?_, kF kc0 [] [] ?_, ?_⟩
        ·omega
        ·exact kT0 (kc3 hml @Nat.not_lt_zero @hsame)
        ·omega
       ·have hRN : R.length = N := by omega
        refine ⟨t + 1, ?_, kF kc0 [] [] ?_, ?_⟩
        ·omega
        ·repeat' first | exact fmn | refine fmc ⟨?_, ?_⟩
         all_goals refine ⟨_, (by first | rfl | (simp (disch := omega) only [go_sem, simprocAttr, hRN, hiN]; done) | (simp (disch := omega) only [go_sem, simprocAttr, hRN, hiN]; rfl)), fun i hi => ?_⟩
         all_goals dsimp only at hi ⊢
         all_goals try (exfalso; omega)
         all_goals try (simp (disch := omega) only [go_sem, simprocAttr, hRN, hiN, ZeZ, ZeU]; done)
        ·omega
    ·have : t = 2 := by omega
     subst this
     try dsimp only
     refine Zau _ (Ziw _ _ _ _ ⟨ZbM rfl, ZbM rfl, (by (repeat' first | exact fmn | refine fmc ⟨⟨Nat.le_of_ble_eq_true rfl, Nat.le_of_ble_eq_true rfl, by dsimp only; omega⟩, ?_⟩); done)⟩ rfl [2, 19] rfl rfl rfl rfl) ?_;refine kw1 kc0 kc0 ?_;refine Zdf (o := 19) rfl rfl (by simp) ?_;rw [List.take_of_length_le (by simp), sqM, List.map_map];rfl
end Go.Proofs.YtjjbhjnpeenbkaaGreatDoor
namespace Go.Proofs.YtjjbhjnpeenbkaaGreatDoor
open Go Go.PS Go.Proofs
open Go.Bd (sm Zam Part)
set_option maxRecDepth 100000
attribute [local irreducible] Zab wpG Zaa Zaf

theorem Zsq (a : Lv) (h : Zaw a = true) : Zaa Tryz.prog 167 [lvD a] (lvD a) := by
 obtain ⟨s1, s2, s3⟩ := Zhd h;obtain ⟨t1, t2⟩ := Zcv h;have hca := Zla a.2.2.1 (by omega);have hl1 : ∀ (k : Nat) x, a.2.1[k]? = some x → Zaa Tryz.prog 214 [Zac x] (Zac x) := fun k x hx => Zhh x (by have := ZcM (List.mem_of_getElem? hx); omega)
 have hl2 : ∀ (k : Nat) x, a.2.2.2[k]? = some x → Zaa Tryz.prog 214 [Zac x] (Zac x) := fun k x hx => Zhh x (by have := s3 x (List.mem_of_getElem? hx); omega)
 obtain ⟨n, ls, ar, cs⟩ := a;dsimp only at *;refine kE Tryz.func167 ?_;intro hat B X w0;refine kw1 kc0 (kc1 hca) ?_;refine Zau _ (Zcy 3 1 901 1 rfl rfl rfl) ?_;refine Zai (fun (k : Nat) => k ≤ ls.length) (fun k => [(1, .ptr 1 0 0 0), (2, .ptr 2 0 0 0), (3, .ptr 3 0 0 0), (15, .d (Zae ls)), (16, .int ls.length), (17, .int k)]) (fun k => [(1, .cells [.int n, .d (Zae ls), .d (Zak ar), .d (Zae cs)]), (2, .cells [.int 0, .nilS, .nilS, .nilS]), (3, .cells [.int n, .ref 901 1 0 k k, .d (Zak ar), .nilS]), (901, .row 1 ((ls.take k).map Zac))]) (fun k => ls.length - k) 0 ?_ ?_ ?_
 ·exact Nat.zero_le _
 ·exact kN (kc2 @List.take_zero.{0} @List.map_nil.{0,0}) []
 ·intro k hk;have hlk : (ls.take k).length = k := by rw [List.length_take]; omega
  have htk : ((ls.take k).map Zac).take k = (ls.take k).map Zac := List.take_of_length_le (by rw [List.length_map, hlk]; exact Nat.le_refl _);rcases Nat.lt_or_ge k ls.length with hlt | hge
  ·obtain ⟨x, hx⟩ := Zad hlt;have hc1 := hl1 k x hx;have e1 := ZaD hx;refine kw1 (kc3 hx hlk htk) (kc1 hc1) ?_;refine ⟨k + 1, ?_, kN (kc5 e1 htk @List.map_append.{0,0} @List.map_cons.{0,0} @List.map_nil.{0,0}) [(901, 26)], ?_⟩
   ·omega
   ·omega
  ·have : k = ls.length := by omega
   subst this
   try dsimp only
   rw [List.take_length];refine kw1 kc0 kc0 ?_;refine Zau _ (Zcy 3 3 902 1 rfl rfl rfl) ?_;refine Zai (fun (k : Nat) => k ≤ cs.length) (fun k => [(2, .ptr 2 0 0 0), (3, .ptr 3 0 0 0), (30, .d (Zae cs)), (31, .int cs.length), (32, .int k)]) (fun k => [(2, .cells [.int 0, .nilS, .nilS, .nilS]), (3, .cells [.int n, .ref 901 1 0 ls.length ls.length, .d (Zak ar), .ref 902 1 0 k k]), (901, .row 1 (ls.map Zac)), (902, .row 1 ((cs.take k).map Zac))]) (fun k => cs.length - k) 0 ?_ ?_ ?_
   ·exact Nat.zero_le _
   ·exact kN (kc2 @List.take_zero.{0} @List.map_nil.{0,0}) []
   ·intro k hk;have hlk : (cs.take k).length = k := by rw [List.length_take]; omega
    have htk : ((cs.take k).map Zac).take k = (cs.take k).map Zac := List.take_of_length_le (by rw [List.length_map, hlk]; exact Nat.le_refl _);rcases Nat.lt_or_ge k cs.length with hlt | hge
    ·obtain ⟨x, hx⟩ := Zad hlt;have hc1 := hl2 k x hx;have e1 := ZaD hx;refine kw1 (kc3 hx hlk htk) (kc1 hc1) ?_;refine ⟨k + 1, ?_, kN (kc5 e1 htk @List.map_append.{0,0} @List.map_cons.{0,0} @List.map_nil.{0,0}) [(902, 41)], ?_⟩
     ·omega
     ·omega
    ·have : k = cs.length := by omega
     subst this
     try dsimp only
     rw [List.take_length];refine kw1 kc0 kc0 ?_;refine ⟨_, _, _, _, rfl, ?_⟩;simp (disch := omega) only [go_sem, simprocAttr, toD, List.length_map, Nat.le_refl, List.drop_zero];rw [Zat, Zat]
def ZdA (m : List (List Int)) (A b : Nat) : Int := sm (fun j => if A < j then Zah m A j else 0) b
def Zgf (m : List (List Int)) (A : Nat) : Int := sm (fun A => ZdA m A m.length) A
theorem ZoW {m : List (List Int)} (hs : Sq m) (A b : Nat) : 0 ≤ ZdA m A b ∧ ZdA m A b ≤ 1000000 * b := Go.Bd.sm_bounds b fun k _ => by
 have := ZrB hs A k;split <;> omega
theorem ZvE {m : List (List Int)} (hs : Sq m) (h8 : m.length ≤ 8) (A : Nat) : 0 ≤ Zgf m A ∧ Zgf m A ≤ 8000000 * A :=
 Go.Bd.sm_bounds A fun k _ => by
  have := ZoW hs k m.length;omega
theorem Zpp (m : List (List Int)) (A : Nat) : ∀ n, A < n → ZdA m A n = sm (fun j => Zah m A (A + 1 + j)) (n - 1 - A)
 | 0, h => by omega
 | n + 1, h => by
  have e : ZdA m A (n + 1) = ZdA m A n + (if A < n then Zah m A n else 0) := rfl;rw [e];by_cases c : A < n
  ·rw [Zpp m A n c, if_pos c, show n + 1 - 1 - A = (n - 1 - A) + 1 by omega];have e2 : sm (fun j => Zah m A (A + 1 + j)) (n - 1 - A + 1) = sm (fun j => Zah m A (A + 1 + j)) (n - 1 - A) + Zah m A (A + 1 + (n - 1 - A)) := rfl;rw [e2, show A + 1 + (n - 1 - A) = n by omega]
  ·have : n = A := by omega
   subst this;have z : ∀ k, k ≤ n → ZdA m n k = 0 := by
    intro k
    induction k with
    | zero => intro _; rfl
    | succ k ih =>
     intro hk;have e3 : ZdA m n (k + 1) = ZdA m n k + (if n < k then Zah m n k else 0) := rfl;rw [e3, ih (by omega), if_neg (by omega)]; rfl
   rw [z n (Nat.le_refl _), if_neg c, show n + 1 - 1 - n = 0 by omega]; rfl
theorem sm_congr {f g : Nat → Int} : ∀ n, (∀ k, k < n → f k = g k) → sm f n = sm g n
 | 0, _ => rfl
 | n + 1, h => by
  have e : ∀ f : Nat → Int, sm f (n + 1) = sm f n + f n := fun _ => rfl
  rw [e, e, sm_congr n fun k hk => h k (by omega), h n (by omega)]
theorem Zy0 (m : List (List Int)) : Zgf m m.length = Zam (Zah m) (List.range m.length) := by
 rw [Go.Bd.sumC_range, Zgf];exact sm_congr _ fun A hA => Zpp m A _ hA
theorem Zra (l : List Int) (hl : l.length ≤ 1000000) : Zaa Tryz.prog 52 [Zac l] (.bool (decide (l.length ≤ 8))) := by
 refine kE Tryz.func52 ?_;intro hat B X w0;refine kw1 kc0 kc0 ?_;exact Zaj (by rw [Bool.eq_iff_iff]; simp only [decide_eq_true_eq]; omega)
theorem Znt (a : Lv) (i : Nat) (hw : wide a) (hv : Zaw a = true) (har : a.2.2.1.length ≤ 700) (hil : i < a.2.1.length) :
  Zaa Tryz.prog 53 [lvD a, .int i] (.tup [Zce (Zb5 a i).1, .bool (Zb5 a i).2]) := by
 obtain ⟨y, hy⟩ := Zad hil;have hyl := ZcM (List.mem_of_getElem? hy);obtain ⟨t1, t2⟩ := Zcv hv;have h1 := Zra y (by omega);rw [Zb5, Zc7 hy];by_cases h8 : 8 < y.length
 ·rw [if_pos h8];rw [decide_eq_false (by omega)] at h1;obtain ⟨n, ls, ar, cs⟩ := a;dsimp only at *;refine kE Tryz.func53 ?_;intro hat B X w0;refine kw1 (kc1 hy) (kc1 h1) ?_;exact ⟨_, rfl, Zc1 rfl, Zaj rfl, trivial⟩
 ·rw [if_neg h8];rw [decide_eq_true (by omega)] at h1;have h2 := Zy5 a i hw hv hil;have hmok := Zr7 (i := i) har (by rw [Zc7 hy]; exact h8);have h3 := Zoi (orM a i);rw [if_pos hmok] at h3;obtain ⟨hs, hm8⟩ := Zm0 hmok;have hml := ZoP a i;rw [Zc7 hy] at hml;have hns := Zy0 (orM a i);have hbb : 0 ≤ (Zcr (orM a i)).2 ∧ (Zcr (orM a i)).2 ≤ 64000000 := by
   obtain ⟨g1, g2, _⟩ := Go.Bd.best_bounds hs.small hm8 (ZhW _) (Zlm (orM a i));exact ⟨g1, g2⟩
  rw [Zfn, Zc7 hy, ← hml, ← hns];have hni := ZoW hs;have hnt := ZvE hs hm8;have hIs : ∀ A b, ZdA (orM a i) A (b + 1) = ZdA (orM a i) A b + (if A < b then Zah (orM a i) A b else 0) := fun _ _ => rfl
  have hTs : ∀ A, Zgf (orM a i) (A + 1) = Zgf (orM a i) A + ZdA (orM a i) A (orM a i).length := fun _ => rfl
  have hI0 : ∀ A, ZdA (orM a i) A 0 = 0 := fun _ => rfl
  have hT0 : Zgf (orM a i) 0 = 0 := rfl;generalize orM a i = m at *;generalize ZdA m = I at *;generalize Zgf m = T at *;generalize Zcr m = BB at *;obtain ⟨p, cost⟩ := BB;obtain ⟨n, ls, ar, cs⟩ := a;dsimp only at *;refine kE Tryz.func53 ?_;intro hat B X w0;refine kw1 (kc1 hy) (kc2 h1 h2) ?_;refine Zai (fun (u : Nat) => u ≤ m.length) (fun u => [(6, .d (Zae m)), (7, .int (T u)), (24, .int m.length), (25, .int u)]) (fun u => []) (fun u => m.length - u) 0 ?_ ?_ ?_
  ·exact Nat.zero_le _
  ·exact kN (kc1 hT0) []
  ·intro u hu;have b1 := hnt u;rcases Nat.lt_or_ge u m.length with hlt | hge
   ·have e1 := hTs u;refine kw1 kc0 kc0 ?_;refine Zai (fun (b : Nat) => b ≤ m.length) (fun b => [(6, .d (Zae m)), (7, .int (T u + I u b)), (8, .int u), (24, .int m.length), (25, .int u), (29, .int m.length), (30, .int b)]) (fun b => []) (fun b => m.length - b) 0 ?_ ?_ ?_
    ·exact Nat.zero_le _
    ·exact kN (kc2 hI0 @Int.add_zero) []
    ·intro b hb;have b2 := hni u b;rcases Nat.lt_or_ge b m.length with hlb | hgb
     ·obtain ⟨q, hq, hql, hqv, g1, g2⟩ := hs.get hlt hlb;have e2 := hIs u b;by_cases c : u < b
      ·rw [if_pos c] at e2;refine kw1 (kc4 hq hqv hql c) kc0 ?_;refine ⟨b + 1, ?_, kN (kc2 e2 @Int.add_assoc) [], ?_⟩
       ·omega
       ·omega
      ·rw [if_neg c, Int.add_zero] at e2;refine kw1 (kc1 c) kc0 ?_;refine ⟨b + 1, ?_, kN (kc1 e2) [], ?_⟩
       ·omega
       ·omega
     ·have : b = m.length := by omega
      subst this;refine kw1 kc0 kc0 ?_;refine ⟨u + 1, ?_, kN (kc1 e1) [], ?_⟩
      ·omega
      ·omega
   ·have : u = m.length := by omega
    subst this;refine kw1 kc0 (kc1 h3) ?_;refine ⟨_, rfl, Zc1 rfl, Zaj ?_, trivial⟩;rw [Bool.eq_iff_iff]
theorem ZyP (a : Lv) (i : Nat) (o : List Nat) (hw : wide a) (hv : Zaw a = true) (hil : i < a.2.1.length) (ho : Part (Zaq a.2.1 i).length 0 o) :
  Zaa Tryz.prog 168 [lvD a, .int i, Zce o] (lvD (ZbN a i (ZaG (Zaq a.2.1 i) o))) := by
 obtain ⟨y, hy⟩ := Zad hil;have hyl := ZcM (List.mem_of_getElem? hy);obtain ⟨t1, t2⟩ := Zcv hv;rw [Zc7 hy] at ho ⊢;have hol := ho.len;have hr := Zo9 a i (ZaG y o) hw (by rw [Zmd]; omega);rw [Zyi hv hy ho] at hr;generalize ZbN a i (ZaG y o) = P at *;obtain ⟨n', ls', ar', cs'⟩ := P;obtain ⟨n, ls, ar, cs⟩ := a;dsimp only at *;refine kE Tryz.func168 ?_;intro hat B X w0;refine kw1 kc0 kc0 ?_;refine Zau _ (Zd5 7 901 1 rfl rfl) ?_;refine Zai (fun (k : Nat) => k ≤ o.length) (fun k => [(1, .int i), (3, .ptr 3 0 0 0), (6, .ptr 6 0 0 0), (7, .ref 901 1 0 k k), (12, .d (Zce o)), (13, .int o.length), (14, .int k)]) (fun k => [(3, .cells [.int n, .d (Zae ls), .d (Zak ar), .d (Zae cs)]), (6, .cells [.int 0, .nilS, .nilS, .nilS]), (901, .row 1 (((ZaG y o).take k).map D.int))]) (fun k => o.length - k) 0 ?_ ?_ ?_
 ·exact Nat.zero_le _
 ·exact kN (kc2 @List.take_zero.{0} @List.map_nil.{0,0}) []
 ·intro k hk;have hlk : ((ZaG y o).take k).length = k := by rw [List.length_take, Zmd]; omega
  have htk : (((ZaG y o).take k).map D.int).take k = ((ZaG y o).take k).map D.int := List.take_of_length_le (by rw [List.length_map, hlk]; exact Nat.le_refl _);rcases Nat.lt_or_ge k o.length with hlt | hge
  ·obtain ⟨q, hq⟩ := Zad hlt;have hqn := ho.lt q (List.mem_of_getElem? hq);have hyq : y[q]? = some (yG y q) := by rw [yG, List.getElem?_eq_getElem hqn]; rfl
   have e1 : (ZaG y o).take (k + 1) = (ZaG y o).take k ++ [yG y q] := ZaD (by rw [ZaG, List.getElem?_map, hq]; rfl);generalize (ZaG y o).take k = R at *;refine kw1 (kc5 hy hq hyq hlk htk) kc0 ?_;refine ⟨k + 1, ?_, kN (kc5 e1 htk @List.map_append.{0,0} @List.map_cons.{0,0} @List.map_nil.{0,0}) [(901, 28)], ?_⟩
   ·omega
   ·omega
  ·have : k = o.length := by omega
   subst this;have hfull : (ZaG y o).take o.length = ZaG y o := List.take_of_length_le (by rw [Zmd]; exact Nat.le_refl _);rw [hfull] at hlk htk;rw [hfull];refine Zau _ (Zc8 901 1 ((ZaG y o).map D.int) rfl (ZcR _ rfl) (by decide)) ?_;refine kw1 (kc3 hlk htk @List.drop_zero.{0}) (kc1 hr) ?_;refine ⟨_, _, _, _, rfl, ?_⟩;simp (disch := omega) only [go_sem, simprocAttr, toD]
theorem Zvn (a : Lv) (i : Int) (hw : wide a) (har : a.2.2.1.length ≤ 700) : Zaa Tryz.prog 14 [lvD a, .int i] (.bool (ZjY a i)) := by
 have h1 := ZgB a hw;rw [ZjY];rcases hv : Zaw a with _ | _ <;> rw [hv] at h1
 ·refine kE Tryz.func14 ?_;intro hat B X w0;refine kw1 kc0 (kc1 h1) ?_;exact Zaj rfl
 ·obtain ⟨t1, t2⟩ := Zcv hv;by_cases hi : 0 ≤ i ∧ i < a.2.1.length
  ·rw [decide_eq_true hi];obtain ⟨i, rfl⟩ : ∃ n : Nat, i = n := ⟨i.toNat, by omega⟩;rw [Int.toNat_natCast];obtain ⟨y, hy⟩ := Zad (l := a.2.1) (k := i) (by omega);have hyl := ZcM (List.mem_of_getElem? hy);have h2 := Zra y (by omega);have h3 := Znt a i hw hv har (by omega);rw [Zb5] at h3;rw [Zc7 hy] at *;by_cases h8 : 8 < y.length
   ·rw [decide_eq_false (fun h => h h8)];rw [decide_eq_false (by omega)] at h2;obtain ⟨n, ls, ar, cs⟩ := a;dsimp only at *;refine kE Tryz.func14 ?_;intro hat B X w0;refine kw1 (kc1 hy) (kc2 h1 h2) ?_
    all_goals exact Zaj rfl
   ·rw [decide_eq_true h8];rw [decide_eq_true (by omega)] at h2;rw [if_neg h8] at h3;generalize Zfn a i = b at *;generalize Zcr (orM a i) = BB at *;obtain ⟨n, ls, ar, cs⟩ := a;dsimp only at *;refine kE Tryz.func14 ?_;intro hat B X w0;refine kw1 (kc1 hy) (kc3 h1 h2 h3) ?_;exact Zaj (by simp)
  ·rw [decide_eq_false hi];obtain ⟨n, ls, ar, cs⟩ := a;dsimp only at *;refine kE Tryz.func14 ?_;intro hat B X w0;refine kw kc0 (kc1 h1) ?_
   repeat' first | exact True.intro | refine Bn.mk ?_ ?_ | intro hc
   all_goals exact Zaj rfl
theorem ZyB (a : Lv) (hw : wide a) (har : a.2.2.1.length ≤ 700) : Zaa Tryz.prog 104 [lvD a] (lvD (if Zaw a then Zdv a else lv0)) := by
 have h1 := ZgB a hw;rcases hv : Zaw a with _ | _ <;> rw [hv] at h1
 ·rw [if_neg (by decide)];refine kE Tryz.func104 ?_;intro hat B X w0;refine kw1 kc0 (kc1 h1) ?_;refine ⟨_, _, _, _, rfl, ?_⟩;simp (disch := omega) only [go_sem, simprocAttr, toD];rfl
 ·rw [if_pos rfl];obtain ⟨t1, t2⟩ := Zcv hv;have h2 := Zsq a hv;have hK0 := Kin.refl hv hw;have h3 : ∀ (b : Lv) (i : Nat), Kin a b → i < a.2.1.length → Zaa Tryz.prog 53 [lvD b, .int i] (.tup [Zce (Zb5 b i).1, .bool (Zb5 b i).2]) := fun b i h hi => Znt b i h.wd h.ok (by rw [h.arcs]; exact har) (by rw [h.len]; exact hi)
  have h4 : ∀ (b : Lv) (i : Nat), Kin a b → i < a.2.1.length → (Zb5 b i).2 = true → Zaa Tryz.prog 168 [lvD b, .int i, Zce (Zb5 b i).1] (lvD (Zev b i)) := fun b i h hi hb => by
   have hy := Zl5 hb;have e : (Zb5 b i).1 = (Zcr (orM b i)).1 := by rw [Zb5, if_neg hy.1]
   rw [e];exact ZyP b i _ h.wd h.ok (by rw [h.len]; exact hi) (ZkU b i)
  obtain ⟨M, hM⟩ : ∃ M, M = ZdR a 0 := ⟨_, rfl⟩;rw [Zdv, ← hM];generalize hR : Zb2 M a 0 = R;obtain ⟨L, hL⟩ : ∃ L, L = a.2.1.length := ⟨_, rfl⟩;rw [← hL] at h3 h4 t1;refine kE Tryz.func104 ?_;intro hat B X w0;refine kw1 kc0 (kc2 h1 h2) ?_;refine Zai (fun (q : Nat × Lv × Nat) => match q with | (f, b, i) => Kin a b ∧ ZdR b i ≤ f ∧ i ≤ L ∧ Zb2 f b i = R) (fun (f, b, i) => [(1, .ptr 1 0 0 0), (2, .ptr 2 0 0 0), (3, .int i)]) (fun (f, b, i) => [(1, .cells [.int b.1, .d (Zae b.2.1), .d (Zak b.2.2.1), .d (Zae b.2.2.2)]), (2, .cells [.int 0, .nilS, .nilS, .nilS])]) (fun (f, b, i) => f) (M, a, 0) ?_ ?_ ?_
  ·exact ⟨hK0, Nat.le_of_eq hM.symm, Nat.zero_le _, hR⟩
  ·exact kN kc0 []
  ·rintro ⟨f, b, i⟩ ⟨hK, hms, hi, hres⟩;dsimp only at hK hms hi hres ⊢;have hbl : b.2.1.length = L := by rw [hK.len, hL]
   rcases Nat.lt_or_ge i L with hlt | hge
   ·have hf : 0 < f := by
     have : ZdR b i = (Za6 b).toNat * (b.2.1.length + 1) + (b.2.1.length - i) := rfl;omega
    obtain ⟨f, rfl⟩ : ∃ g, f = g + 1 := ⟨f - 1, by omega⟩;rw [Zb2, if_pos (by omega)] at hres;have c1 := h3 b i hK hlt;rcases hb : (Zb5 b i).2 with _ | _
    ·rw [hb] at c1;rw [hb, if_neg (by decide)] at hres;have hs := ZqE (b := b) (i := i) (by omega);clear h3 h4;obtain ⟨n, ls, ar, cs⟩ := b;dsimp only at hbl hb c1 ⊢;refine kw1 (kc1 hbl) (kc1 c1) ?_;refine ⟨(f, (n, ls, ar, cs), i + 1), ?_, kN (kc2 @Int.natCast_add @Int.natCast_one) [], ?_⟩
     ·exact ⟨hK, by dsimp only; omega, hlt, hres⟩
     ·exact Nat.lt_succ_self _
    ·have c2 := h4 b i hK hlt hb;rw [hb] at c1;rw [hb, if_pos rfl] at hres;have hs := Znj hK (by omega) (Zl5 hb).2;have hK2 := ZmQ hK (i := i) (by omega);clear h3 h4;generalize Zev b i = P at *;obtain ⟨n, ls, ar, cs⟩ := b;dsimp only at hbl hb c1 c2 ⊢;refine kw1 (kc1 hbl) (kc2 c1 c2) ?_;refine ⟨(f, P, 0), ?_, kN kc0 [], ?_⟩
     ·exact ⟨hK2, by dsimp only; omega, Nat.zero_le _, hres⟩
     ·exact Nat.lt_succ_self _
   ·rw [Znw (by omega)] at hres;subst hres;obtain ⟨n, ls, ar, cs⟩ := b;dsimp only at hbl ⊢;refine kw1 (kc1 hbl) kc0 ?_;refine ⟨_, _, _, _, rfl, ?_⟩;simp (disch := omega) only [go_sem, simprocAttr, toD]
def ZgV (a : Lv) (r : Int) : Lv × Int × Int :=
 if Zaw a = true ∧ 0 ≤ r ∧ r ≤ 100 then (Zdv (Zb8 a r.toNat), Za6 (Zdv (Zb8 a r.toNat)), 0) else (lv0, 0, 1)
theorem ZtW (a : Lv) (r : Int) (hw : wide a) (har : a.2.2.1.length ≤ 700) : Zaa Tryz.prog 50 [lvD a, .int r] (.tup [lvD (ZgV a r).1, .int (ZgV a r).2.1, .int (ZgV a r).2.2]) := by
 have h1 := ZgB a hw;rw [ZgV];by_cases hall : Zaw a = true ∧ 0 ≤ r ∧ r ≤ 100
 ·rw [if_pos hall];obtain ⟨hv, hr0, hr1⟩ := hall;rw [hv] at h1;obtain ⟨t1, t2⟩ := Zcv hv;have hb := Zv3 a r hw har;have hrr : Zfq r = r.toNat := by rw [Zfq]; omega
  rw [ZjO, if_pos hv, hrr] at hb;have hK := ZmJ hv hw r.toNat;have h3 := ZyB (Zb8 a r.toNat) hK.wd (by rw [hK.arcs]; exact har);rw [if_pos hK.ok] at h3;have hK2 := (ZzW hK.ok hK.wd).1;have h4 := Zqn (Zdv (Zb8 a r.toNat)) hK2.wd (by rw [hK2.len, hK.len]; omega);dsimp only at hb ⊢;generalize Zdv (Zb8 a r.toNat) = Q at *;generalize Zb8 a r.toNat = P at *;generalize Za6 P = tp at *;generalize Za6 Q = tq at *;clear hK hK2;obtain ⟨n1, ls1, ar1, cs1⟩ := Q;obtain ⟨n2, ls2, ar2, cs2⟩ := P;refine kE Tryz.func50 ?_;intro hat B X w0;refine kw1 kc0 (kc4 h1 hb h3 h4) ?_;refine ⟨_, rfl, ⟨_, _, _, _, rfl, ?_⟩, Zag rfl, Zag rfl, trivial⟩;simp (disch := omega) only [go_sem, simprocAttr, toD]
 ·rw [if_neg hall];rcases hv : Zaw a with _ | _ <;> rw [hv] at h1
  ·refine kE Tryz.func50 ?_;intro hat B X w0;refine kw1 kc0 (kc1 h1) ?_;refine ⟨_, rfl, ⟨_, _, _, _, rfl, ?_⟩, Zag rfl, Zag rfl, trivial⟩;simp (disch := omega) only [go_sem, simprocAttr, toD];rfl
  ·have hn : ¬ (0 ≤ r ∧ r ≤ 100) := fun h => hall ⟨hv, h⟩
   refine kE Tryz.func50 ?_;intro hat B X w0;refine kw kc0 (kc1 h1) ?_
   repeat' first | exact True.intro | refine Bn.mk ?_ ?_ | intro hc
   all_goals
    refine ⟨_, rfl, ⟨_, _, _, _, rfl, ?_⟩, Zag rfl, Zag rfl, trivial⟩;simp (disch := omega) only [go_sem, simprocAttr, toD];rfl
end Go.Proofs.YtjjbhjnpeenbkaaGreatDoor
namespace Go.Proofs.YtjjbhjnpeenbkaaGreatDoor
open Go Go.PS Go.Proofs
set_option maxRecDepth 100000
attribute [local irreducible] Zab wpG Zaa Zaf
end Go.Proofs.YtjjbhjnpeenbkaaGreatDoor
namespace Go.Proofs.YtjjbhjnpeenbkaaGreatDoor
open Go Go.PS Go.Proofs
open Go.Bd (sm Zam Part)
set_option maxRecDepth 100000
attribute [local irreducible] Zab wpG Zaa Zaf

end Go.Proofs.YtjjbhjnpeenbkaaGreatDoor
namespace Go.Proofs.YtjjbhjnpeenbkaaGreatDoor
open Go Go.PS Go.Proofs
set_option maxRecDepth 100000
attribute [local irreducible] Zab wpG Zaa Zaf

end Go.Proofs.YtjjbhjnpeenbkaaGreatDoor
namespace Go.Proofs.YtjjbhjnpeenbkaaGreatDoor
open Go Go.PS Go.Proofs
open Go.Bd (sm Zam Part)
set_option maxRecDepth 100000
attribute [local irreducible] Zab wpG Zaa Zaf

/-! The chapter's example. -/
theorem Zsr {a b : Lv} (h : Kin a b) : Kin a (Zdv b) ∧ Za6 (Zdv b) ≤ Za6 b ∧ ∀ j, j < a.2.1.length → (Zb5 (Zdv b) j).2 = false :=
 Zje _ b 0 h (Nat.le_refl _) (Nat.zero_le _) (fun j hlj => absurd hlj (Nat.not_lt_zero j))
theorem ZuP {a b : Lv} (h : Kin a b) {i : Nat} (hi : i < a.2.1.length) (h8 : (Zaq a.2.1 i).length ≤ 8) (hb : (Zb5 b i).2 = false) : ZjY b i = true := by
 have hl := h.llen i;rw [Zb5, if_neg (by omega)] at hb;have h1 := h.len;rw [ZjY, h.ok, decide_eq_true (by omega), Int.toNat_natCast, decide_eq_true (by omega), show Zfn b i = false from hb]; rfl
end Go.Proofs.YtjjbhjnpeenbkaaGreatDoor
namespace Go.Proofs.YtjjbhjnpeenbkaaGreatDoor.Sx
open Go Go.PS Go.Proofs
set_option maxRecDepth 100000
attribute [local irreducible] Zab wpG Zaa

abbrev Bd := Int × Int × Int × Int
abbrev bdD (b : Bd) : D := .ag [.int b.1, .int b.2.1, .int b.2.2.1, .int b.2.2.2]
abbrev Zei (l : List Bd) : D := .sl (l.map bdD)
abbrev Zac (l : List Int) : D := .sl (l.map D.int)
abbrev Net := Int × List Bd
abbrev nD (n : Net) : D := .ag [.int n.1, Zei n.2]
theorem Zh9 (a b : Int) : (if b < a then b else a) = min a b := by omega
theorem Zjh (a b : Int) : (if a < b then b else a) = max a b := by omega
def bdIn (n : Int) (b : Bd) : Bool := decide (0 ≤ b.1 ∧ b.1 < n ∧ 0 ≤ b.2.1 ∧ b.2.1 < n ∧ b.1 ≠ b.2.1 ∧ -16777216 ≤ b.2.2.1 ∧ b.2.2.1 ≤ 16777216 ∧ 0 ≤ b.2.2.2 ∧ b.2.2.2 ≤ 8000)
def nOk (n : Net) : Bool := decide (0 ≤ n.1 ∧ n.1 ≤ 2048 ∧ n.2.length ≤ 4096) && !n.2.any (fun b => !bdIn n.1 b)
theorem ZgF {n : Net} (h : nOk n = true) : 0 ≤ n.1 ∧ n.1 ≤ 2048 ∧ n.2.length ≤ 4096 ∧ ∀ (k : Nat) b, n.2[k]? = some b →
  0 ≤ b.1 ∧ b.1 < n.1 ∧ 0 ≤ b.2.1 ∧ b.2.1 < n.1 ∧ b.1 ≠ b.2.1 ∧ -16777216 ≤ b.2.2.1 ∧ b.2.2.1 ≤ 16777216 ∧ 0 ≤ b.2.2.2 ∧ b.2.2.2 ≤ 8000 := by
 simp only [nOk, Bool.and_eq_true, decide_eq_true_eq, Bool.not_eq_true', List.any_eq_false] at h;obtain ⟨⟨h1, h2, h3⟩, h4⟩ := h;refine ⟨h1, h2, h3, fun k b hk => ?_⟩;have := h4 b (List.mem_of_getElem? hk);simpa [bdIn] using this
theorem ZfD (g : Net) : Zaa Tryz.prog 159 [nD g] (.bool (nOk g)) := by
 obtain ⟨n, l⟩ := g;refine kE Tryz.func159 ?_;intro hat B X w0;have hl := Zca 0 1 hat rfl rfl;rw [List.length_map] at hl;refine kw kc0 kc0 ?_
 repeat' first | exact True.intro | refine Bn.mk ?_ ?_ | intro hc
 all_goals try (refine Zaj ?_; simp [nOk]; omega)
 refine Zai (fun (k : Nat) => k ≤ l.length ∧ ∀ (j : Nat) y, j < k → l[j]? = some y → (!bdIn n y) = false) (fun k => [(1, .ptr 1 0 0 0), (20, .d (Zei l)), (21, .int l.length), (22, .int k)]) (fun k => [(1, .cells [.int n, .d (Zei l)])]) (fun k => l.length - k) 0 ?_ ?_ ?_
 ·exact ⟨Nat.zero_le _, fun j y h => by omega⟩
 ·exact kN kc0 []
 ·rintro k ⟨hk, hinv⟩;rcases Nat.lt_or_ge k l.length with hlt | hge
  ·obtain ⟨p, hp⟩ := Zad hlt
   repeat' first | refine Zbk rfl ?_ | refine Za1 ?_ | refine wR ?_ | (refine Zbn rfl rfl (fun hc => ?_) (fun hc => ?_) <;> try simp only [hcL] at hc) | (refine Zbl _ rfl rfl (fun hc => ?_) (fun hc => ?_) <;> (try simp only [hcL] at hc) <;> try omega) | simp (disch := omega) only [go_sem, simprocAttr, hp, Zh9, Zjh] | apply And.intro | omega | decide +kernel
   all_goals try
    refine Zaj ?_;rw [nOk, Zc6 hp (by rw [bdIn, Bool.not_eq_true', decide_eq_false_iff_not]; omega)];simp
   ·refine ⟨k + 1, ?_, eL [] _ _ (by refine ⟨?_, ?_⟩ <;> (repeat' first | exact fmn | refine fmc ⟨(by first | rfl | (simp (disch := omega) only [go_sem, simprocAttr, inL]; first | done | omega | (congr 1; done))), ?_⟩); done), ?_⟩
    ·exact ⟨by omega, ZbK hinv hp (by rw [bdIn, Bool.not_eq_false', decide_eq_true_eq]; omega)⟩
    ·omega
  ·refine kw1 kc0 kc0 ?_;refine Zaj ?_;rw [nOk, ZdT (fun j y hj => hinv j y (by omega))];simp; omega
theorem Zil (g : Net) : Zaa Tryz.prog 133 [nD g] (.bool (nOk g)) := by
 obtain ⟨n, l⟩ := g;refine kE Tryz.func133 ?_;intro hat B X w0;have hl := Zca 0 1 hat rfl rfl;rw [List.length_map] at hl;refine kw kc0 kc0 ?_
 repeat' first | exact True.intro | refine Bn.mk ?_ ?_ | intro hc
 all_goals try (refine Zaj ?_; simp [nOk]; omega)
 refine Zai (fun (k : Nat) => k ≤ l.length ∧ ∀ (j : Nat) y, j < k → l[j]? = some y → (!bdIn n y) = false) (fun k => [(1, .ptr 1 0 0 0), (3, .int k)]) (fun k => [(1, .cells [.int n, .d (Zei l)])]) (fun k => l.length - k) 0 ?_ ?_ ?_
 ·exact ⟨Nat.zero_le _, fun j y h => by omega⟩
 ·exact kN kc0 []
 ·rintro k ⟨hk, hinv⟩;rcases Nat.lt_or_ge k l.length with hlt | hge
  ·obtain ⟨p, hp⟩ := Zad hlt
   repeat' first | refine Zbk rfl ?_ | refine Za1 ?_ | refine wR ?_ | (refine Zbn rfl rfl (fun hc => ?_) (fun hc => ?_) <;> try simp only [hcL] at hc) | (refine Zbl _ rfl rfl (fun hc => ?_) (fun hc => ?_) <;> (try simp only [hcL] at hc) <;> try omega) | simp (disch := omega) only [go_sem, simprocAttr, hp] | apply And.intro | omega | decide +kernel
   all_goals try
    refine Zaj ?_;rw [nOk, Zc6 hp (by rw [bdIn, Bool.not_eq_true', decide_eq_false_iff_not]; omega)];simp
   ·refine ⟨k + 1, ?_, eL [] _ _ (by refine ⟨?_, ?_⟩ <;> (repeat' first | exact fmn | refine fmc ⟨(by first | rfl | (simp (disch := omega) only [go_sem, simprocAttr, inL]; first | done | omega | (congr 1; done))), ?_⟩); done), ?_⟩
    ·exact ⟨by omega, ZbK hinv hp (by rw [bdIn, Bool.not_eq_false', decide_eq_true_eq]; omega)⟩
    ·omega
  ·refine kw1 kc0 kc0 ?_;refine Zaj ?_;rw [nOk, ZdT (fun j y hj => hinv j y (by omega))];simp; omega
def Zj7 (x : Int) : Bool := decide (-34359738368 ≤ x ∧ x ≤ 34359738368)
def Zho (g : Net) (r : List Int) : Bool := nOk g && decide ((r.length : Int) = g.1) && !r.any (fun x => !Zj7 x)
def at0 (r : List Int) (v : Int) : Int := (r[v.toNat]?).getD 0
theorem ZeD {r : List Int} {v : Int} (h1 : 0 ≤ v) (h2 : v < r.length) : r[v.toNat]? = some (at0 r v) := by
 obtain ⟨x, hx⟩ := Zad (show v.toNat < r.length by omega);rw [at0, hx]; rfl
theorem Zrp (g : Net) (r : List Int) : Zaa Tryz.prog 85 [nD g, Zac r] (.bool (Zho g r)) := by
 rcases hg : nOk g with _ | _
 ·have hv : Zaa Tryz.prog 133 [nD g] (.bool false) := hg ▸ Zil g;refine kE Tryz.func85 ?_;intro hat B X w0;refine kw1 kc0 (kc1 hv) ?_
  all_goals (refine Zaj ?_; simp [Zho, hg])
 ·have hv : Zaa Tryz.prog 133 [nD g] (.bool true) := hg ▸ Zil g;obtain ⟨h1, h2, h3, h4⟩ := ZgF hg;refine kE Tryz.func85 ?_;intro hat B X w0;have hl := Zbf 1 hat rfl;rw [List.length_map] at hl;refine kw kc0 (kc1 hv) ?_
  repeat' first | exact True.intro | refine Bn.mk ?_ ?_ | intro hc
  all_goals try (refine Zaj ?_; simp [Zho, hg]; omega)
  refine Zai (fun (k : Nat) => k ≤ r.length ∧ ∀ (j : Nat) y, j < k → r[j]? = some y → (!Zj7 y) = false) (fun k => [(1, .d (Zac r)), (5, .int k)]) (fun k => []) (fun k => r.length - k) 0 ?_ ?_ ?_
  ·exact ⟨Nat.zero_le _, fun j y h => by omega⟩
  ·exact kN kc0 []
  ·rintro k ⟨hk, hinv⟩;rcases Nat.lt_or_ge k r.length with hlt | hge
   ·obtain ⟨p, hp⟩ := Zad hlt;refine kw (kc1 hp) kc0 ?_
    repeat' first | exact True.intro | refine Bn.mk ?_ ?_ | intro hc
    all_goals try
     refine Zaj ?_;rw [Zho, Zc6 hp (by rw [Zj7, Bool.not_eq_true', decide_eq_false_iff_not]; omega)];simp
    ·refine ⟨k + 1, ?_, eL [] _ _ (by refine ⟨?_, ?_⟩ <;> (repeat' first | exact fmn | refine fmc ⟨(by first | rfl | (simp (disch := omega) only [go_sem, simprocAttr, inL]; first | done | omega | (congr 1; done))), ?_⟩); done), ?_⟩
     ·exact ⟨by omega, ZbK hinv hp (by rw [Zj7, Bool.not_eq_false', decide_eq_true_eq]; omega)⟩
     ·omega
   ·refine kw1 kc0 kc0 ?_;refine Zaj ?_;rw [Zho, ZdT (fun j y hj => hinv j y (by omega))];simp [hg]; omega
def gap (r : List Int) (b : Bd) : Int := at0 r b.2.1 - at0 r b.1
def ZaK (f : Nat → Int) : Nat → Int
 | 0 => 0
 | k + 1 => ZaK f k + f k
theorem ZcU (f : Nat → Int) (k : Nat) : ZaK f (k + 1) = ZaK f k + f k := rfl
theorem Zov {f : Nat → Int} {c : Int} {m : Nat} (h : ∀ k, k < m → -c ≤ f k ∧ f k ≤ c) : ∀ k, k ≤ m → -(c * k) ≤ ZaK f k ∧ ZaK f k ≤ c * k := by
 intro k
 induction k with
 | zero => intro _; simp [ZaK]
 | succ k ih =>
  intro hk;have h1 := ih (by omega);have h2 := h k (by omega);have : c * ((k + 1 : Nat) : Int) = c * k + c := by rw [Int.natCast_succ, Int.mul_add, Int.mul_one]
  rw [ZaK, this]; omega
def Zf9 (r : List Int) (l : List Bd) (k : Nat) : Int := match l[k]? with
 | some b => b.2.2.2 * gap r b
 | none => 0
def Zlu (g : Net) (r : List Int) : Int := if Zho g r then ZaK (Zf9 r g.2) g.2.length else 0
def Zd4 (l : List Bd) (f : List Int) (v : Int) (j : Nat) : Int := match l[j]?, f[j]? with
 | some b, some x => (if b.2.1 = v then x - b.2.2.2 else 0) - (if b.1 = v then x - b.2.2.2 else 0)
 | _, _ => 0
end Go.Proofs.YtjjbhjnpeenbkaaGreatDoor.Sx
namespace Go.Proofs.YtjjbhjnpeenbkaaGreatDoor.Sx
open Go Go.PS Go.Proofs
set_option maxRecDepth 100000
attribute [local irreducible] Zab wpG Zaa Zaf
abbrev pD (n : Nat) (l : List Bd) (f : List Int) : D := .pt [.int n, Zei l, Zac f]
def ZbE (n : Nat) : List Int := (List.range n).map fun u : Nat => (u : Int)
def Za9 (g : Nat → Int) (n k : Nat) : List Int := (List.range n).map fun u => if u < k then g u else 0
theorem Zdz (g : Nat → Int) (n k : Nat) : (Za9 g n k).length = n := by simp [Za9]
theorem Ze2 {g : Nat → Int} {n k u : Nat} (h : u < n) : (Za9 g n k)[u]? = some (if u < k then g u else 0) := by simp [Za9, h]
theorem Zi0 (g : Nat → Int) (n : Nat) : (Za9 g n 0).map D.int = List.replicate n (D.int 0) := by
 rw [List.eq_replicate_iff];refine ⟨by simp [Za9], fun b hb => ?_⟩;simp only [Za9, List.map_map, List.mem_map] at hb;obtain ⟨u, _, rfl⟩ := hb;simp
theorem ZiO {g : Nat → Int} {n k : Nat} (h : k < n) : (Za9 g n k).set k (g k) = Za9 g n (k + 1) := by
 refine List.ext_getElem? fun u => ?_
 by_cases hu : u < n
 ·rw [Ze2 hu, List.getElem?_set, Ze2 hu, Zdz];by_cases c : k = u
  ·subst c; rw [if_pos rfl, if_pos h, if_pos (by omega)]
  ·rw [if_neg c];by_cases c2 : u < k
   ·rw [if_pos c2, if_pos (by omega)]
   ·rw [if_neg c2, if_neg (by omega)]
 ·rw [List.getElem?_eq_none (by rw [List.length_set, Zdz]; omega), List.getElem?_eq_none (by rw [Zdz]; omega)]
theorem ZiV (g : Nat → Int) (n : Nat) : Za9 g n n = (List.range n).map g := by
 rw [Za9];refine List.map_congr_left fun u hu => ?_
 rw [if_pos (List.mem_range.1 hu)]
theorem Zlr (n : Nat) (l : List Bd) (f : List Int) (hn : n ≤ 2048) : Zaf Tryz.prog 161 [.d (pD n l f)] [(2000, .dead)] (.ref 2000 1 0 n n) [(2000, .row 1 ((ZbE n).map D.int))] := by
 refine kM Tryz.func161 ?_;intro B X w0;refine Zfw ⟨Nat.beq 10, ⟨⟩⟩ kc0 kc0 ?_;refine Zai (fun (k : Nat) => k ≤ n) (fun k => [(3, .ref 10 1 0 n n), (12, .int n), (13, .int k)]) (fun k => [(10, .row 1 ((Za9 (fun u => (u : Int)) n k).map D.int))]) (fun k => n - k) 0 ?_ ?_ ?_
 ·exact Nat.zero_le _
 ·exact kN (kc1 @Zi0) []
 ·intro k hk;have hlen := Zdz (fun u => (u : Int)) n k;rcases Nat.lt_or_ge k n with hlt | hge
  ·have hg : (Za9 (fun u => (u : Int)) n k)[k]? = _ := Ze2 hlt;have hst := ZiO (g := fun u => (u : Int)) hlt;refine kw1 (kc2 hg hlen) kc0 ?_;refine ⟨k + 1, ?_, kN (kc2 @hst.symm @List.map_set.{0,0}) [], ?_⟩
   ·omega
   ·omega
  ·refine Zcp kc0 kc0 ?_;have : k = n := by omega
   subst this;refine kR kc0 [(2000, 10)] [(2, .ref 2000 1 0 _ _)] [(2000, .row 1 _)] ?_;refine Za1 ?_;exact ⟨rfl, List.forall_mem_cons.2 ⟨Znh (by rw [ZiV]; rfl), List.forall_mem_nil _⟩⟩
def Zdp (l : List Bd) (v : Int) (j : Nat) : Int := match l[j]? with
 | some b => (if b.2.1 = v then b.2.2.2 else 0) - (if b.1 = v then b.2.2.2 else 0)
 | none => 0
def Zbt (l : List Bd) (n k : Nat) : List Int := (List.range n).map fun v : Nat => ZaK (Zdp l v) k
theorem Zhr (l : List Bd) (n k : Nat) : (Zbt l n k).length = n := by simp [Zbt]
theorem Zvs (l : List Bd) (n : Nat) : (Zbt l n 0).map D.int = List.replicate n (D.int 0) := by
 rw [List.eq_replicate_iff];refine ⟨by simp [Zbt], fun b hb => ?_⟩;simp only [Zbt, List.map_map, List.mem_map] at hb;obtain ⟨u, _, rfl⟩ := hb;rfl
theorem Zio {l : List Bd} {n k u : Nat} (hu : u < n) : (Zbt l n k)[u]? = some (ZaK (Zdp l u) k) := by simp [Zbt, hu]
theorem Ztk {l : List Bd} {n k i j : Nat} {b : Bd} (hb : l[k]? = some b) (hi : b.1 = i) (hj : b.2.1 = j) (hij : i ≠ j) (hin : i < n) (hjn : j < n) :
  Zbt l n (k + 1) = ((Zbt l n k).set j (ZaK (Zdp l j) k + b.2.2.2)).set i (ZaK (Zdp l i) k - b.2.2.2) := by
 refine List.ext_getElem? fun u => ?_
 by_cases hu : u < n
 ·rw [Zio hu, ZcU, List.getElem?_set, List.getElem?_set, List.length_set, Zhr, Zio hu];have e : Zdp l u k = (if b.2.1 = (u : Int) then b.2.2.2 else 0) - (if b.1 = (u : Int) then b.2.2.2 else 0) := by simp [Zdp, hb]
  rw [e, hi, hj];by_cases c1 : i = u
  ·subst c1;rw [if_neg (by omega), if_pos rfl, if_pos rfl, if_pos hu]; congr 1; omega
  ·by_cases c2 : j = u
   ·subst c2;rw [if_pos rfl, if_neg (by omega), if_neg c1, if_pos rfl, if_pos hu]; congr 1; omega
   ·rw [if_neg (by omega), if_neg (by omega), if_neg c1, if_neg c2]; congr 1; omega
 ·rw [List.getElem?_eq_none (by rw [Zhr]; omega), List.getElem?_eq_none (by rw [List.length_set, List.length_set, Zhr]; omega)]
theorem Zlf {l : List Bd} {v : Int} {m : Nat} (hm : m ≤ l.length) (h4 : ∀ (k : Nat) b, l[k]? = some b → 0 ≤ b.2.2.2 ∧ b.2.2.2 ≤ 8000) :
  -(8000 * (m : Int)) ≤ ZaK (Zdp l v) m ∧ ZaK (Zdp l v) m ≤ 8000 * (m : Int) := by
 refine Zov (m := m) (fun k hk => ?_) m (Nat.le_refl _);obtain ⟨b, hb⟩ := Zad (show k < l.length by omega);have h5 := h4 k b hb;simp only [Zdp, hb];split <;> split <;> omega
theorem ZxM (n : Nat) (l : List Bd) (f : List Int) (hg : nOk (n, l) = true) : Zaf Tryz.prog 212 [.d (pD n l f)] [(2000, .dead)] (.ref 2000 1 0 n n) [(2000, .row 1 ((Zbt l n l.length).map D.int))] := by
 obtain ⟨h1, h2, h3, h4⟩ := ZgF hg;dsimp only at h1 h2 h3 h4;refine kM Tryz.func212 ?_;intro B X w0;refine Zfw ⟨Nat.beq 11, ⟨⟩⟩ kc0 kc0 ?_;refine Zai (fun (k : Nat) => k ≤ l.length) (fun k => [(3, .ref 11 1 0 n n), (16, .d (Zei l)), (17, .int l.length), (18, .int k)]) (fun k => [(11, .row 1 ((Zbt l n k).map D.int))]) (fun k => l.length - k) 0 ?_ ?_ ?_
 ·exact Nat.zero_le _
 ·exact kN (kc1 @Zvs) []
 ·intro k hk;have hbl := Zhr l n k;rcases Nat.lt_or_ge k l.length with hlt | hge
  ·obtain ⟨b, hb⟩ := Zad hlt;have hbi := h4 k b hb;obtain ⟨i, hi⟩ : ∃ i : Nat, b.1 = i := ⟨b.1.toNat, by omega⟩;obtain ⟨j, hj⟩ : ∃ j : Nat, b.2.1 = j := ⟨b.2.1.toNat, by omega⟩;have gi : (Zbt l n k)[i]? = _ := Zio (by omega);have gj : (Zbt l n k)[j]? = _ := Zio (by omega);have bi := Zlf (v := i) (show k ≤ l.length by omega) (fun k b hb => by have := h4 k b hb; omega);have bj := Zlf (v := j) (show k ≤ l.length by omega) (fun k b hb => by have := h4 k b hb; omega);have hst := Ztk (n := n) hb hi hj (by omega) (by omega) (by omega);have hij : j ≠ i := by omega
   have gs : ((List.map D.int (Zbt l n k)).set j (D.sc (.int .i64 (ZaK (Zdp l j) k + b.2.2.2))))[i]? = some (D.int (ZaK (Zdp l i) k)) := by
    rw [List.getElem?_set_ne hij, List.getElem?_map, gi]; rfl
   refine kw1 (kc8 hb hi hj gi gj gs hbl @List.length_set.{0}) kc0 ?_;refine ⟨k + 1, ?_, kN (kc2 hst @List.map_set.{0,0}) [], ?_⟩
   ·omega
   ·omega
  ·refine Zcp kc0 kc0 ?_;have : k = l.length := by omega
   subst this;refine kR kc0 [(2000, 11)] [(2, .ref 2000 1 0 _ _)] [(2000, .row 1 _)] ?_;refine Za1 ?_;exact ⟨rfl, List.forall_mem_cons.2 ⟨rfl, List.forall_mem_nil _⟩⟩
end Go.Proofs.YtjjbhjnpeenbkaaGreatDoor.Sx
namespace Go.Proofs.YtjjbhjnpeenbkaaGreatDoor.Sx
open Go Go.PS Go.Proofs
set_option maxRecDepth 100000
attribute [local irreducible] Zab wpG Zaa
def upA (b : Bd) (s : List Int × Bool) : List Int × Bool :=
 if at0 s.1 b.2.1 < at0 s.1 b.1 + b.2.2.1 then (s.1.set b.2.1.toNat (at0 s.1 b.1 + b.2.2.1), true) else s
def upB (b : Bd) (t : Bool) (s : List Int × Bool) : List Int × Bool :=
 if t && decide (at0 s.1 b.1 < at0 s.1 b.2.1 - b.2.2.1) then (s.1.set b.1.toNat (at0 s.1 b.2.1 - b.2.2.1), true) else s
def Zhx (f : List Int) (k : Nat) : Bool := match f[k]? with
 | some x => decide (0 < x)
 | none => false
def ZiH (l : List Bd) (f : List Int) (k : Nat) (s : List Int × Bool) : List Int × Bool := match l[k]? with
 | some b => upB b (Zhx f k) (upA b s)
 | none => s
def Zb0 (l : List Bd) (f r : List Int) : Nat → List Int × Bool
 | 0 => (r, false)
 | k + 1 => ZiH l f k (Zb0 l f r k)
def ZbR (l : List Bd) (f : List Int) (n : Nat) : Nat → List Int
 | 0 => List.replicate n 0
 | k + 1 => (Zb0 l f (ZbR l f n k) l.length).1
def ZeQ (l : List Bd) (f : List Int) (n : Nat) : Nat → Option Nat
 | 0 => none
 | k + 1 => match ZeQ l f n k with | some i => some i | none => if (Zb0 l f (ZbR l f n k) l.length).2 then none else some k
def ZgN (g : Net) (f : List Int) : List Int × Bool := match ZeQ g.2 f g.1.toNat (g.1.toNat + 2) with
 | some k => (ZbR g.2 f g.1.toNat (k + 1), true)
 | none => ([], false)
theorem ZtT (b : Bd) (s : List Int × Bool) : (upA b s).1.length = s.1.length := by
 unfold upA; split <;> simp
theorem ZvW (b : Bd) (t : Bool) (s : List Int × Bool) : (upB b t s).1.length = s.1.length := by
 unfold upB; split <;> simp
theorem Zxe (l : List Bd) (f : List Int) (k : Nat) (s : List Int × Bool) : (ZiH l f k s).1.length = s.1.length := by
 unfold ZiH; split
 ·rw [ZvW, ZtT]
 ·rfl
theorem ZkS (l : List Bd) (f r : List Int) : ∀ k, (Zb0 l f r k).1.length = r.length
 | 0 => rfl
 | k + 1 => by rw [Zb0, Zxe, ZkS l f r k]
theorem Zoa (l : List Bd) (f : List Int) (n : Nat) : ∀ k, (ZbR l f n k).length = n
 | 0 => by simp [ZbR]
 | k + 1 => by rw [ZbR, ZkS, Zoa l f n k]
def ZbW (r : List Int) (m : Int) : Prop := ∀ v : Int, -m ≤ at0 r v ∧ at0 r v ≤ m
theorem Zgv (r : List Int) (i : Nat) (x v : Int) (hv : 0 ≤ v) : at0 (r.set i x) v = if v = i ∧ i < r.length then x else at0 r v := by
 simp only [at0, List.getElem?_set];by_cases h : i = v.toNat
 ·subst h;by_cases h2 : v.toNat < r.length
  ·rw [if_pos rfl, if_pos h2, if_pos (by omega)]; rfl
  ·rw [if_pos rfl, if_neg h2, if_neg (by omega), List.getElem?_eq_none (by omega)]
 ·rw [if_neg h, if_neg (by omega)]
theorem ZyH (r : List Int) (v : Int) (hv : v < 0) : at0 r v = at0 r 0 := by
 rw [at0, at0, show v.toNat = 0 by omega]; rfl
theorem ZlB {r : List Int} {m : Int} {i : Nat} {x : Int} (h : ZbW r m) (h1 : -m ≤ x) (h2 : x ≤ m) : ZbW (r.set i x) m := by
 have key : ∀ v : Int, 0 ≤ v → -m ≤ at0 (r.set i x) v ∧ at0 (r.set i x) v ≤ m := by
  intro v hv;rw [Zgv _ _ _ _ hv];split
  ·exact ⟨h1, h2⟩
  ·exact h v
 intro v;rcases (show v < 0 ∨ 0 ≤ v by omega) with hv | hv
 ·rw [ZyH _ _ hv]; exact key 0 (Int.le_refl _)
 ·exact key v hv
theorem Ze8 {r : List Int} {m m' : Int} (h : ZbW r m) (hm : m ≤ m') : ZbW r m' := fun v => by have := h v; omega
def Zlg (l : List Bd) : Prop := ∀ (k : Nat) b, l[k]? = some b → -16777216 ≤ b.2.2.1 ∧ b.2.2.1 ≤ 16777216
theorem ZwR {b : Bd} {s : List Int × Bool} {m : Int} (h : ZbW s.1 m) (hb : -16777216 ≤ b.2.2.1 ∧ b.2.2.1 ≤ 16777216) : ZbW (upA b s).1 (m + 16777216) := by
 unfold upA;split
 ·have h1 := h b.1;exact ZlB (Ze8 h (by omega)) (by omega) (by omega)
 ·exact Ze8 h (by omega)
theorem Zsd {b : Bd} {t : Bool} {s : List Int × Bool} {m : Int} (h : ZbW s.1 m) (hb : -16777216 ≤ b.2.2.1 ∧ b.2.2.1 ≤ 16777216) : ZbW (upB b t s).1 (m + 16777216) := by
 unfold upB;split
 ·have h1 := h b.2.1;exact ZlB (Ze8 h (by omega)) (by omega) (by omega)
 ·exact Ze8 h (by omega)
theorem ZmO {l : List Bd} {f r : List Int} {m : Int} (hl : Zlg l) (h : ZbW r m) : ∀ k : Nat, ZbW (Zb0 l f r k).1 (m + 33554432 * k)
 | 0 => Ze8 h (by omega)
 | k + 1 => by
  have ih := ZmO (f := f) hl h k;rw [Zb0, ZiH];cases hb : l[k]? with
  | none => exact Ze8 ih (by omega)
  | some b =>
   have := hl k b hb;exact Ze8 (Zsd (ZwR ih this) this) (by omega)
theorem ZpU {l : List Bd} {f : List Int} {n : Nat} (hl : Zlg l) (hm : l.length ≤ 4096) : ∀ k : Nat, ZbW (ZbR l f n k) (137438953472 * k)
 | 0 => by
  intro v;have : at0 (ZbR l f n 0) v = 0 := by
   simp only [at0, ZbR, List.getElem?_replicate]; split <;> rfl
  rw [this]; omega
 | k + 1 => by
  rw [ZbR];exact Ze8 (ZmO hl (ZpU hl hm k) l.length) (by omega)
theorem Zyu {l : List Bd} {f : List Int} {n m k : Nat} (hk : k < m) (h1 : ZeQ l f n k = none) (h2 : (Zb0 l f (ZbR l f n k) l.length).2 = false) : ZeQ l f n m = some k := by
 induction m with
 | zero => omega
 | succ m ih =>
  rcases Nat.lt_succ_iff_lt_or_eq.1 hk with h | rfl
  ·simp [ZeQ, ih h]
  ·simp [ZeQ, h1, h2]
theorem ZvA {l : List Bd} {f : List Int} {n k : Nat} (h1 : ZeQ l f n k = none) (h2 : (Zb0 l f (ZbR l f n k) l.length).2 = true) : ZeQ l f n (k + 1) = none := by simp [ZeQ, h1, h2]
theorem ZaS {r : List Int} {i : Nat} (h : i < r.length) : r[i]? = some (at0 r i) := by
 obtain ⟨x, hx⟩ := Zad h;rw [at0, Int.toNat_natCast, hx]; rfl
theorem Zys {b : Bd} {t : Bool} {s : List Int × Bool} {i j : Nat} (hi : b.1 = i) (hj : b.2.1 = j) (hij : i ≠ j) (hjl : j < s.1.length) (h : at0 s.1 j < at0 s.1 i + b.2.2.1) :
  upB b t (upA b s) = (s.1.set j (at0 s.1 i + b.2.2.1), true) := by
 have e : upA b s = (s.1.set j (at0 s.1 i + b.2.2.1), true) := by rw [upA, hi, hj, if_pos h, Int.toNat_natCast]
 have e1 := Zgv s.1 j (at0 s.1 i + b.2.2.1) i (by omega);rw [if_neg (by omega)] at e1;have e2 := Zgv s.1 j (at0 s.1 i + b.2.2.1) j (by omega);rw [if_pos ⟨rfl, hjl⟩] at e2;rw [e, upB, hi, hj];dsimp only;rw [e1, e2, if_neg];simp only [Bool.and_eq_true, decide_eq_true_eq]; omega
theorem ZxD {b : Bd} {t : Bool} {s : List Int × Bool} {i j : Nat} (hi : b.1 = i) (hj : b.2.1 = j) (h : ¬ at0 s.1 j < at0 s.1 i + b.2.2.1) (ht : t = true) (h2 : at0 s.1 i < at0 s.1 j - b.2.2.1) :
  upB b t (upA b s) = (s.1.set i (at0 s.1 j - b.2.2.1), true) := by
 have e : upA b s = s := by rw [upA, hi, hj, if_neg h]
 rw [e, upB, hi, hj, if_pos (by simp [ht, h2]), Int.toNat_natCast]
theorem Zn3 {b : Bd} {t : Bool} {s : List Int × Bool} {i j : Nat} (hi : b.1 = i) (hj : b.2.1 = j) (h : ¬ at0 s.1 j < at0 s.1 i + b.2.2.1) (h2 : t = false ∨ ¬ at0 s.1 i < at0 s.1 j - b.2.2.1) :
  upB b t (upA b s) = s := by
 have e : upA b s = s := by rw [upA, hi, hj, if_neg h]
 rw [e, upB, hi, hj, if_neg];rcases h2 with h2 | h2 <;> simp [h2]
theorem Zoi (g : Net) (f : List Int) (hg : nOk g = true) (hfl : f.length ≤ 1000000) : Zaa Tryz.prog 134 [nD g, Zac f] (.tup [Zac (ZgN g f).1, .bool (ZgN g f).2]) := by
 obtain ⟨h1, h2, h3, h4⟩ := ZgF hg;obtain ⟨m, l⟩ := g;dsimp only at h1 h2 h3 h4;obtain ⟨n, rfl⟩ : ∃ n : Nat, m = n := ⟨m.toNat, by omega⟩;have hlo : Zlg l := fun k b hb => by have := h4 k b hb; omega
 refine kE Tryz.func134 ?_;intro hat B X w0;refine Zfw ⟨Nat.beq 13, ⟨⟩⟩ kc0 kc0 ?_;refine Zai (fun (k : Nat) => k ≤ n + 2 ∧ ZeQ l f n k = none) (fun k => [(1, .d (Zac f)), (2, .ptr 2 0 0 0), (6, .ref 13 1 0 n n), (7, .int k)]) (fun k => [(2, .cells [.int n, .d (Zei l)]), (13, .row 1 ((ZbR l f n k).map D.int))]) (fun k => n + 2 - k) 0 ?_ ?_ ?_
 ·exact ⟨by omega, rfl⟩
 ·exact kN (kc2 @ZbR.eq_1 @List.map_replicate.{0,0}) []
 ·rintro k ⟨hk, hstill⟩;have hwi := ZpU (f := f) (n := n) hlo h3 k;rcases Nat.lt_or_ge k (n + 2) with hlt | hge
  ·refine kw1 kc0 kc0 ?_;refine Zai (fun (i : Nat) => i ≤ l.length) (fun i => [(1, .d (Zac f)), (2, .ptr 2 0 0 0), (6, .ref 13 1 0 n n), (7, .int k), (8, .bool (Zb0 l f (ZbR l f n k) i).2), (9, .int i)]) (fun i => [(2, .cells [.int n, .d (Zei l)]), (13, .row 1 ((Zb0 l f (ZbR l f n k) i).1.map D.int))]) (fun i => l.length - i) 0 ?_ ?_ ?_
   ·exact Nat.zero_le _
   ·exact kN (kc1 @Zb0.eq_1) []
   ·intro i hi;have hlen : (Zb0 l f (ZbR l f n k) i).1.length = n := by rw [ZkS, Zoa]
    have hw := Ze8 (m' := 562949953421312) (ZmO (f := f) hlo hwi i) (by omega);rcases Nat.lt_or_ge i l.length with hil | hig
    ·obtain ⟨b, hb⟩ := Zad hil;have hbi := h4 i b hb;have hru : Zb0 l f (ZbR l f n k) (i + 1) = upB b (Zhx f i) (upA b (Zb0 l f (ZbR l f n k) i)) := by simp only [Zb0, ZiH, hb]
     generalize Zb0 l f (ZbR l f n k) i = s at hlen hw hru ⊢;obtain ⟨p, hp⟩ : ∃ p : Nat, b.1 = p := ⟨b.1.toNat, by omega⟩;obtain ⟨q, hq⟩ : ∃ q : Nat, b.2.1 = q := ⟨b.2.1.toNat, by omega⟩;have gp := ZaS (r := s.1) (i := p) (by omega);have gq := ZaS (r := s.1) (i := q) (by omega);have wp := hw p;have wq := hw q;have hpq : q ≠ p := by omega
     have t1 : ∀ x, ((List.map D.int s.1).set q x)[p]? = some (D.int (at0 s.1 p)) := fun x => by
      rw [List.getElem?_set_ne hpq, List.getElem?_map, gp]; rfl
     have t2 : ∀ x, ((List.map D.int s.1).set q x)[q]? = some x := fun x => List.getElem?_set_self (by rw [List.length_map]; omega)
     rcases Decidable.em (at0 s.1 q < at0 s.1 p + b.2.2.1) with c1 | c1
     ·rw [Zys hp hq (by omega) (by omega) c1] at hru;rcases Nat.lt_or_ge i f.length with hif | hif
      ·obtain ⟨x, hx⟩ := Zad hif;refine kw (kc8 hb hx hp hq gp gq t1 (kc3 t2 hlen @List.length_set.{0})) kc0 ?_
       repeat' first | exact True.intro | refine Bn.mk ?_ ?_ | intro hc
       all_goals
        refine ⟨i + 1, ?_, kN (kc2 hru @List.map_set.{0,0}) [], ?_⟩
        ·omega
        ·omega
      ·refine kw1 (kc8 hb hp hq gp gq t1 t2 (kc2 hlen @List.length_set.{0})) kc0 ?_
       all_goals
        refine ⟨i + 1, ?_, kN (kc2 hru @List.map_set.{0,0}) [], ?_⟩
        ·omega
        ·omega
     ·rcases Nat.lt_or_ge i f.length with hif | hif
      ·obtain ⟨x, hx⟩ := Zad hif;have ht : Zhx f i = decide (0 < x) := by rw [Zhx, hx]
       rw [ht] at hru;rcases Decidable.em (0 < x ∧ at0 s.1 p < at0 s.1 q - b.2.2.1) with c2 | c2
       ·rw [ZxD hp hq c1 (by simp [c2.1]) c2.2] at hru;refine kw1 (kc8 hb hx hp hq gp gq t1 (kc3 t2 hlen @List.length_set.{0})) kc0 ?_
        all_goals
         refine ⟨i + 1, ?_, kN (kc2 hru @List.map_set.{0,0}) [], ?_⟩
         ·omega
         ·omega
       ·rw [Zn3 hp hq c1 (by rw [decide_eq_false_iff_not]; omega)] at hru;refine kw (kc8 hb hx hp hq gp gq t1 (kc3 t2 hlen @List.length_set.{0})) kc0 ?_
        repeat' first | exact True.intro | refine Bn.mk ?_ ?_ | intro hc
        all_goals
         refine ⟨i + 1, ?_, kN (kc2 hru @List.map_set.{0,0}) [], ?_⟩
         ·omega
         ·omega
      ·have ht : Zhx f i = false := by rw [Zhx, List.getElem?_eq_none hif]
       rw [ht, Zn3 hp hq c1 (.inl rfl)] at hru;refine kw1 (kc8 hb hp hq gp gq t1 t2 (kc2 hlen @List.length_set.{0})) kc0 ?_
       all_goals
        refine ⟨i + 1, ?_, kN (kc2 hru @List.map_set.{0,0}) [], ?_⟩
        ·omega
        ·omega
    ·have : i = l.length := by omega
     subst this;rcases hch : (Zb0 l f (ZbR l f n k) l.length).2 with _ | _
     ·refine kw1 kc0 kc0 ?_;have e : ZgN (n, l) f = (ZbR l f n (k + 1), true) := by
       rw [ZgN, Int.toNat_natCast, Zyu hlt hstill hch]
      rw [e, ZbR];exact ⟨_, rfl, Zdf (o := 13) rfl rfl (by simp [hlen]) (List.take_of_length_le (by simp [hlen])), Zaj rfl, trivial⟩
     ·refine kw1 kc0 kc0 ?_;refine ⟨k + 1, ?_, kN (kc1 @ZbR.eq_1) [], ?_⟩
      ·exact ⟨by omega, ZvA hstill hch⟩
      ·omega
  ·refine kw1 kc0 kc0 ?_;have : k = n + 2 := by omega
   subst this;have e : ZgN (n, l) f = ([], false) := by rw [ZgN, Int.toNat_natCast, hstill]
   rw [e];exact ⟨_, rfl, Zc1 rfl, Zaj rfl, trivial⟩
end Go.Proofs.YtjjbhjnpeenbkaaGreatDoor.Sx
namespace Go.Proofs.YtjjbhjnpeenbkaaGreatDoor.Sx
open Go Go.PS Go.Proofs
set_option maxRecDepth 100000
attribute [local irreducible] Zab wpG Zaa Zaf

abbrev Stp := Int × Int × Int × Bool
abbrev stD (s : Stp) : D := .ag [.int s.1, .int s.2.1, .int s.2.2.1, .bool s.2.2.2]
def ZgL (l : List Bd) (f : List Int) (v k : Nat) : List Stp := match l[k]? with
 | some b => (if b.1 = v then [(b.2.1, b.2.2.1, (k : Int), false)] else []) ++ (if 0 < at0 f k ∧ b.2.1 = v then [(b.1, -b.2.2.1, (k : Int), true)] else [])
 | none => []
def Zea (l : List Bd) (f : List Int) (v : Nat) : Nat → List Stp := Zbq (ZgL l f v)
def ZcQ (l : List Bd) (f : List Int) (k v : Nat) : List D := (Zea l f v k).map stD
abbrev Zhv (n : Nat) (l : List Bd) (f : List Int) : List D := (List.range n).map fun v => .sl (ZcQ l f l.length v)
theorem Ztz {l : List Bd} {f : List Int} {k : Nat} {b : Bd} {p q : Nat} (hb : l[k]? = some b) (hp : b.1 = p) (hq : b.2.1 = q) (hpq : p ≠ q) (v : Nat) :
  ZcQ l f (k + 1) v = if v = p then ZcQ l f k v ++ [stD (q, b.2.2.1, k, false)] else if v = q ∧ 0 < at0 f k then ZcQ l f k v ++ [stD (p, -b.2.2.1, k, true)] else ZcQ l f k v := by
 simp only [ZcQ, Zea, Zbq, ZgL, hb, hp, hq, List.map_append];by_cases h1 : v = p
 ·subst h1; rw [if_pos rfl, if_neg (by omega), if_pos rfl]; simp
 ·rw [if_neg (by omega), if_neg h1];by_cases h2 : v = q ∧ 0 < at0 f k
  ·rw [if_pos ⟨h2.2, by omega⟩, if_pos h2]; simp
  ·rw [if_neg (by omega), if_neg h2]; simp
theorem ZjR (l : List Bd) (f : List Int) (v : Nat) : ∀ k, (ZcQ l f k v).length ≤ 2 * k
 | 0 => by simp [ZcQ, Zea, Zbq]
 | k + 1 => by
  have := ZjR l f v k;simp only [ZcQ, Zea, Zbq, List.map_append, List.length_append, List.length_map] at this ⊢;have : (ZgL l f v k).length ≤ 2 := by
   rw [ZgL]; split
   ·split <;> split <;> simp
   ·simp
  omega
theorem Zzu (n : Nat) (l : List Bd) (f : List Int) (hn : n ≤ 2048) (hl : l.length ≤ 4096) (hfl : f.length = l.length)
  (hb : ∀ (k : Nat) b, l[k]? = some b → 0 ≤ b.1 ∧ b.1 < n ∧ 0 ≤ b.2.1 ∧ b.2.1 < n ∧ b.1 ≠ b.2.1 ∧ -16777216 ≤ b.2.2.1 ∧ b.2.2.1 ≤ 16777216) :
  Zaa Tryz.prog 211 [pD n l f] (.sl (Zhv n l f)) := by
 refine kE Tryz.func211 ?_;intro hat B X w0;refine Zfw ⟨fun s => (Nat.beq 11 s).or ((Nat.beq 37 s).or (Nat.beq 63 s)), ⟨⟩⟩ kc0 kc0 ?_;refine Zau _ (Zif 1 11 4 n rfl (fun i hi => by simp (disch := omega) only [go_sem, simprocAttr, ZiX, ZdK]) (by decide) (by decide)) ?_;refine Zd1 (fun (k : Nat) => k ≤ l.length) (fun k => [(0, .d (pD n l f)), (3, .ref 11 1 0 n n), (16, .d (Zei l)), (17, .int l.length), (18, .int k)]) (fun k => [⟨1, 11, 4, n, ZcQ l f k⟩]) (fun k => []) (fun k => l.length - k) 0 ?_ ?_ ?_
 ·exact Nat.zero_le _
 ·refine kF kc0 [] [] ?_
  repeat' first | exact fmn | refine fmc ⟨?_, ?_⟩
  all_goals refine ⟨_, (by first | rfl | (simp (disch := omega) only [go_sem, simprocAttr, ZcQ, Zea, Zbq]; done) | (simp (disch := omega) only [go_sem, simprocAttr, ZcQ, Zea, Zbq]; rfl)), fun i hi => ?_⟩
  all_goals dsimp only at hi ⊢
  all_goals try (exfalso; omega)
  all_goals try (simp (disch := omega) only [go_sem, simprocAttr, ZcQ, Zea, Zbq, ZeZ, ZeU]; done)
 ·intro k hk;rcases Nat.lt_or_ge k l.length with hlt | hge
  ·obtain ⟨b, hbk⟩ := Zad hlt;have hbi := hb k b hbk;obtain ⟨p, hp⟩ : ∃ p : Nat, b.1 = p := ⟨b.1.toNat, by omega⟩;obtain ⟨q, hq⟩ : ∃ q : Nat, b.2.1 = q := ⟨b.2.1.toNat, by omega⟩;have hpq : p ≠ q := by omega
   have hqp : q ≠ p := by omega
   have hpn : p < n := by omega
   have hqn : q < n := by omega
   have gf := ZaS (r := f) (i := k) (by omega);have hsu := Ztz (f := f) hbk hp hq hpq;have e1 := ZjR l f p k;have e2 := ZjR l f q k;refine Zau _ (ZeN _ _ [11] 11 p 900 1 4 n (by first | rfl | (simp (disch := omega) only [go_sem, simprocAttr]; done) | (simp (disch := omega) only [go_sem, simprocAttr]; rfl)) (by first | (simp (disch := omega) only [go_sem, simprocAttr]; done) | (simp (disch := omega) only [go_sem, simprocAttr]; rfl)) (by first | (simp (disch := omega) only [go_sem, simprocAttr]; done) | (simp (disch := omega) only [go_sem, simprocAttr]; rfl)) (fun i hi hne => by simp (disch := omega) only [go_sem, simprocAttr, hne]; (repeat' split) <;> exact .ref _ _ _ _ _ ⟨by simp (disch := omega) only [go_sem, simprocAttr, hne], by simp (disch := omega) only [go_sem, simprocAttr, hne]⟩) (by (repeat' first | refine ZeM ?_ | exact ZeR (ids := [11]) rfl rfl (Nat.le_of_ble_eq_true rfl) | refine Ze1 ?_ | refine Zfb ?_ | refine ZeS ?_ | refine ZeH ?_ | refine ZeI ?_ | refine Ze4 (by dsimp only; omega) (by dsimp only; omega) (by omega) (by omega) (Nat.le_of_ble_eq_true rfl) ?_); done) rfl rfl rfl) ?_;refine Zau _ (ZeN _ _ [11, 900] 11 q 901 1 4 n (by first | rfl | (simp (disch := omega) only [go_sem, simprocAttr, hpq, hqp]; done) | (simp (disch := omega) only [go_sem, simprocAttr, hpq, hqp]; rfl)) (by first | (simp (disch := omega) only [go_sem, simprocAttr, hpq, hqp]; done) | (simp (disch := omega) only [go_sem, simprocAttr, hpq, hqp]; rfl)) (by first | (simp (disch := omega) only [go_sem, simprocAttr, hpq, hqp]; done) | (simp (disch := omega) only [go_sem, simprocAttr, hpq, hqp]; rfl)) (fun i hi hne => by simp (disch := omega) only [go_sem, simprocAttr, hne, hpq, hqp]; (repeat' split) <;> exact .ref _ _ _ _ _ ⟨by simp (disch := omega) only [go_sem, simprocAttr, hne, hpq, hqp], by simp (disch := omega) only [go_sem, simprocAttr, hne, hpq, hqp]⟩) (by (repeat' first | refine ZeM ?_ | exact ZeR (ids := [11, 900]) rfl rfl (Nat.le_of_ble_eq_true rfl) | refine Ze1 ?_ | refine Zfb ?_ | refine ZeS ?_ | refine ZeH ?_ | refine ZeI ?_ | refine Ze4 (by dsimp only; omega) (by dsimp only; omega) (by omega) (by omega) (Nat.le_of_ble_eq_true rfl) ?_); done) rfl rfl rfl) ?_
   repeat' first | refine Zbk rfl ?_ | refine Za1 ?_ | refine ZcI (fun s => (Nat.beq 11 s).or ((Nat.beq 37 s).or (Nat.beq 63 s))) ZbV ?_ | (refine Zbn rfl rfl (fun hc => ?_) (fun hc => ?_) <;> try simp only [hcL] at hc) | (refine Zbl _ rfl rfl (fun hc => ?_) (fun hc => ?_) <;> (try simp only [hcL] at hc) <;> try omega) | simp (disch := omega) only [go_sem, simprocAttr, hbk, hp, hq, gf, hpq, hqp, roomy] | apply And.intro | omega | decide +kernel
   ·refine ⟨k + 1, ?_, kF kc0 [(fid 1 p, 38), (fid 1 q, 64)] [] ?_, ?_⟩
    ·omega
    ·exact kT2 (kc8 hsu hpq hqp @List.take_length.{0} @List.length_append.{0} @List.length_cons.{0} @List.length_nil.{0} hc) p q
    ·omega
   ·refine ⟨k + 1, ?_, eF [(fid 1 p, 38), (fid 1 q, 901)] [] _ _ _ (by refine ⟨?_, ?_⟩ <;> (repeat' first | exact fmn | refine fmc ⟨(by first | rfl | (simp (disch := omega) only [go_sem, simprocAttr, inL]; first | done | omega | (congr 1; done))), ?_⟩); done) ?_, ?_⟩
    ·omega
    ·exact kT2 (kc8 hsu hpq hqp @List.take_length.{0} @List.length_append.{0} @List.length_cons.{0} @List.length_nil.{0} hc) p q
    ·omega
  ·refine Zcp kc0 kc0 ?_;have : k = l.length := by omega
   subst this;refine Zau _ (ZyE.1 (kG kc0 [] [] [(2, .ref 11 1 0 n n)] [⟨1, 11, 4, n, ZcQ l f l.length⟩] [] ?_)) ?_
   ·exact kT0 kc0
   ·refine Zau _ (Ziw _ _ _ _ ⟨ZbM rfl, ZbM rfl, (by (repeat' first | exact fmn | refine fmc ⟨⟨Nat.le_of_ble_eq_true rfl, Nat.le_of_ble_eq_true rfl, by dsimp only; omega⟩, ?_⟩); done)⟩ rfl [11] rfl rfl rfl rfl) ?_;refine kw1 kc0 kc0 ?_;exact Zdf (o := 11) rfl rfl (by simp) (List.take_of_length_le (by simp))
end Go.Proofs.YtjjbhjnpeenbkaaGreatDoor.Sx
