/- Barycenters: layers, sweeps, rounds, by the program and by the reference. -/
import Derived.Test.YtjjbhjnpeenbkaaGreatDoorBaS4
import Derived.Test.YtjjbhjnpeenbkaaGreatDoorStE
import Derived.Test.YtjjbhjnpeenbkaaGreatDoorD
import Derived.Test.YtjjbhjnpeenbkaaGreatDoorTypes
set_option linter.unusedSimpArgs false
set_option linter.unusedVariables false
set_option maxHeartbeats 16000000
namespace Go.Proofs.YtjjbhjnpeenbkaaGreatDoor
open Go Go.PS Go.Proofs
open Go.Stb
set_option maxRecDepth 100000
attribute [local irreducible] Zab wpG Zaa Zaf

theorem ZwJ (a : Lv) (h : Zax a = true) : Zaa Tryz.prog 165 [lvD a] (lvD a) := by
 obtain ⟨s1, s2, s3⟩ := ZhE h;obtain ⟨t1, t2⟩ := Zcz h;have hca := Zm6 a.2.2.1 (by omega);have hl1 : ∀ (k : Nat) x, a.2.1[k]? = some x → Zaa Tryz.prog 214 [Zac x] (Zac x) := fun k x hx => ZhG x (by have := ZcU (List.mem_of_getElem? hx); omega)
 have hl2 : ∀ (k : Nat) x, a.2.2.2[k]? = some x → Zaa Tryz.prog 214 [Zac x] (Zac x) := fun k x hx => ZhG x (by have := s3 x (List.mem_of_getElem? hx); omega)
 obtain ⟨n, ls, ar, cs⟩ := a;dsimp only at *;refine kE Tryz.func165 ?_;intro hat B X w0;refine kw1 kO kc0 (kc1 hca) ?_;refine Zav _ (Zcs 3 1 901 1 rfl rfl rfl) ?_;refine Zai (fun (k : Nat) => k ≤ ls.length) (fun k => [(1, .ptr 1 0 0 0), (2, .ptr 2 0 0 0), (3, .ptr 3 0 0 0), (15, .d (Zae ls)), (16, .int ls.length), (17, .int k)]) (fun k => [(1, .cells [.int n, .d (Zae ls), .d (Zak ar), .d (Zae cs)]), (2, .cells [.int 0, .nilS, .nilS, .nilS]), (3, .cells [.int n, .ref 901 1 0 k k, .d (Zak ar), .nilS]), (901, .row 1 ((ls.take k).map Zac))]) (fun k => ls.length - k) 0 ?_ ?_ ?_
 ·exact Nat.zero_le _
 ·exact kN (kc2 @List.take_zero.{0} @List.map_nil.{0,0}) []
 ·intro k hk;have hlk : (ls.take k).length = k := by rw [List.length_take]; omega
  have htk : ((ls.take k).map Zac).take k = (ls.take k).map Zac := List.take_of_length_le (by rw [List.length_map, hlk]; exact Nat.le_refl _);rcases Nat.lt_or_ge k ls.length with hlt | hge
  ·obtain ⟨x, hx⟩ := Zad hlt;have hc1 := hl1 k x hx;have e1 := ZaD hx
   repeat' first | refine ZaK rfl ?_ | refine ZaF ?_ | refine wR ?_ | (refine rc (hc1) rfl ?_ ?_; (· first | rfl | simp (disch := omega) only [go_sem, simprocAttr, hx, hlk, htk, roomy])) | (refine ZaM rfl rfl (fun hc => ?_) (fun hc => ?_) <;> try simp only [hcL] at hc) | (refine ZaL _ rfl rfl (fun hc => ?_) (fun hc => ?_) <;> (try simp only [hcL] at hc) <;> try omega) | simp (disch := omega) only [go_sem, simprocAttr, hx, hlk, htk, roomy] | exact fun d hd => by rw [List.mem_singleton.1 hd]; rfl | apply And.intro | omega | decide +kernel
   refine ⟨k + 1, ?_, kN (kc5 e1 htk @List.map_append.{0,0} @List.map_cons.{0,0} @List.map_nil.{0,0}) [(901, 26)], ?_⟩
   ·omega
   ·omega
  ·have : k = ls.length := by omega
   subst this
   try dsimp only
   rw [List.take_length];refine kw1 kO kc0 kc0 ?_;refine Zav _ (Zcs 3 3 902 1 rfl rfl rfl) ?_;refine Zai (fun (k : Nat) => k ≤ cs.length) (fun k => [(2, .ptr 2 0 0 0), (3, .ptr 3 0 0 0), (30, .d (Zae cs)), (31, .int cs.length), (32, .int k)]) (fun k => [(2, .cells [.int 0, .nilS, .nilS, .nilS]), (3, .cells [.int n, .ref 901 1 0 ls.length ls.length, .d (Zak ar), .ref 902 1 0 k k]), (901, .row 1 (ls.map Zac)), (902, .row 1 ((cs.take k).map Zac))]) (fun k => cs.length - k) 0 ?_ ?_ ?_
   ·exact Nat.zero_le _
   ·exact kN (kc2 @List.take_zero.{0} @List.map_nil.{0,0}) []
   ·intro k hk;have hlk : (cs.take k).length = k := by rw [List.length_take]; omega
    have htk : ((cs.take k).map Zac).take k = (cs.take k).map Zac := List.take_of_length_le (by rw [List.length_map, hlk]; exact Nat.le_refl _);rcases Nat.lt_or_ge k cs.length with hlt | hge
    ·obtain ⟨x, hx⟩ := Zad hlt;have hc1 := hl2 k x hx;have e1 := ZaD hx
     repeat' first | refine ZaK rfl ?_ | refine ZaF ?_ | refine wR ?_ | (refine rc (hc1) rfl ?_ ?_; (· first | rfl | simp (disch := omega) only [go_sem, simprocAttr, hx, hlk, htk, roomy])) | (refine ZaM rfl rfl (fun hc => ?_) (fun hc => ?_) <;> try simp only [hcL] at hc) | (refine ZaL _ rfl rfl (fun hc => ?_) (fun hc => ?_) <;> (try simp only [hcL] at hc) <;> try omega) | simp (disch := omega) only [go_sem, simprocAttr, hx, hlk, htk, roomy] | exact fun d hd => by rw [List.mem_singleton.1 hd]; rfl | apply And.intro | omega | decide +kernel
     refine ⟨k + 1, ?_, kN (kc5 e1 htk @List.map_append.{0,0} @List.map_cons.{0,0} @List.map_nil.{0,0}) [(902, 41)], ?_⟩
     ·omega
     ·omega
    ·have : k = cs.length := by omega
     subst this
     try dsimp only
     rw [List.take_length];refine kw1 kO kc0 kc0 ?_;refine ⟨_, _, _, _, rfl, ?_⟩;simp (disch := omega) only [go_sem, simprocAttr, toD, List.length_map, Nat.le_refl, List.drop_zero];rw [Zat, Zat]
theorem ZxT (a : Lv) (hw : wide a) (hv : Zax a = true) (har : a.2.2.1.length ≤ 700) : Zaa Tryz.prog 166 [lvD a] (lvD (swB a)) := by
 obtain ⟨t1, t2⟩ := Zcz hv;have hkd := Zm4 (Kin.refl hv hw);have hku := fun k hk => Zls (hkd (a.2.1.length - 1) (Nat.le_refl _)) k hk
 have h1 : ∀ k, k + 1 < a.2.1.length → Zaa Tryz.prog 215 [lvD (Zdk a k), .int (k + 1 : Nat), .int k] (lvD (Zdk a (k + 1))) := fun k hk => by
  have hK := hkd k (by omega);exact Zp6 (Zdk a k) (k + 1) k hK.wd hK.ok (by rw [hK.arcs]; exact har) (by rw [hK.len]; omega) (by rw [hK.len]; omega)
 have h2 : ∀ k, k + 1 < a.2.1.length → Zaa Tryz.prog 215 [lvD (upB (Zdk a (a.2.1.length - 1)) a.2.1.length k), .int (a.2.1.length - 2 - k : Nat), .int (a.2.1.length - 1 - k : Nat)] (lvD (upB (Zdk a (a.2.1.length - 1)) a.2.1.length (k + 1))) := fun k hk => by
  have hK := hku k (by omega);exact Zp6 _ (a.2.1.length - 2 - k) (a.2.1.length - 1 - k) hK.wd hK.ok (by rw [hK.arcs]; exact har) (by rw [hK.len]; omega) (by rw [hK.len]; omega)
 have hl1 : ∀ k, k ≤ a.2.1.length - 1 → (Zdk a k).2.1.length = a.2.1.length := fun k hk => (hkd k hk).len
 rw [swB];have hd0 : Zdk a 0 = a := rfl;have hu0 : upB (Zdk a (a.2.1.length - 1)) a.2.1.length 0 = Zdk a (a.2.1.length - 1) := rfl;clear hkd hku;obtain ⟨N, hN⟩ : ∃ N, N = a.2.1.length := ⟨_, rfl⟩;rw [← hN] at h1 h2 hl1 hu0 t1 ⊢;generalize upB (Zdk a (N - 1)) N = U at *;generalize Zdk a = W at *;rw [← hd0] at hN;rw [show a = W 0 from hd0.symm];clear hd0;refine kE Tryz.func166 ?_;intro hat B X w0;refine kw1 kO kc0 kc0 ?_;refine Zai (fun (k : Nat) => k ≤ N - 1) (fun k => [(1, .ptr 1 0 0 0), (2, .ptr 2 0 0 0), (3, .int (k + 1 : Nat))]) (fun k => [(1, .cells [.int (W k).1, .d (Zae (W k).2.1), .d (Zak (W k).2.2.1), .d (Zae (W k).2.2.2)]), (2, .cells [.int 0, .nilS, .nilS, .nilS])]) (fun k => N - k) 0 ?_ ?_ ?_
 ·exact Nat.zero_le _
 ·exact kN (kc2 @Nat.zero_add @Int.natCast_one) []
 ·intro k hk;have hl := hl1 k hk;have e1 : ((k + 1 : Nat) : Int) - 1 = (k : Int) := by omega
  have e2 : ((k + 1 : Nat) : Int) + 1 = ((k + 1 + 1 : Nat) : Int) := by omega
  rcases Nat.lt_or_ge (k + 1) N with hlt | hge
  ·have c1 := h1 k hlt;refine kw1 kO (kc3 hl e1 e2) (kc1 c1) ?_;refine ⟨k + 1, ?_, kN kc0 [], ?_⟩
   ·omega
   ·omega
  ·have : k = N - 1 := by omega
   subst this;rw [← hu0] at hl ⊢;clear hu0 h1;refine kw1 kO (kc1 hl) kc0 ?_;refine Zai (fun (k : Nat) => k ≤ N - 1) (fun k => [(1, .ptr 1 0 0 0), (2, .ptr 2 0 0 0), (4, .int ((N : Int) - 2 - k))]) (fun k => [(1, .cells [.int (U k).1, .d (Zae (U k).2.1), .d (Zak (U k).2.2.1), .d (Zae (U k).2.2.2)]), (2, .cells [.int 0, .nilS, .nilS, .nilS])]) (fun k => N - k) 0 ?_ ?_ ?_
   ·exact Nat.zero_le _
   ·exact kN (kc2 @Int.natCast_zero @Int.sub_zero) []
   ·intro k hk;rcases Nat.lt_or_ge (k + 1) N with hlt | hge
    ·have c1 := h2 k hlt;have e3 : (N : Int) - 2 - k = ((N - 2 - k : Nat) : Int) := by omega
     have e4 : ((N - 2 - k : Nat) : Int) + 1 = ((N - 1 - k : Nat) : Int) := by omega
     have e5 : ((N - 2 - k : Nat) : Int) - 1 = (N : Int) - 2 - ((k + 1 : Nat) : Int) := by omega
     rw [e3];refine kw1 kO (kc2 e4 e5) (kc1 c1) ?_;refine ⟨k + 1, ?_, kN kc0 [], ?_⟩
     ·omega
     ·omega
    ·have : k = N - 1 := by omega
     subst this;refine kw1 kO kc0 kc0 ?_;refine ⟨_, _, _, _, rfl, ?_⟩;simp (disch := omega) only [go_sem, simprocAttr, toD]
theorem Zzp (r : Int) : (if (100 : Int) < (if r < 0 then 0 else r) then (100 : Int) else (if r < 0 then 0 else r)) = (Zfp r : Int) := by
 rw [Zfp]; split <;> split <;> omega
theorem ZxE (a : Lv) (r : Int) (hw : wide a) (har : a.2.2.1.length ≤ 700) : Zaa Tryz.prog 103 [lvD a, .int r] (.tup [lvD (ZjQ a r).1, .int (ZjQ a r).2]) := by
 have h1 := ZgQ a hw;rw [ZjQ];rcases hv : Zax a with _ | _ <;> rw [hv] at h1
 ·rw [if_neg (by decide)];refine kE Tryz.func103 ?_;intro hat B X w0;refine kw1 kO kc0 (kc1 h1) ?_;refine ⟨_, rfl, ⟨_, _, _, _, rfl, ?_⟩, Zah rfl, trivial⟩;simp (disch := omega) only [go_sem, simprocAttr, toD];rfl
 ·rw [if_pos rfl];obtain ⟨t1, t2⟩ := Zcz hv;have h2 := ZwJ a hv;have hk := ZmQ hv hw;have h3 : ∀ k, Zaa Tryz.prog 166 [lvD (ZcZ a k)] (lvD (ZcZ a (k + 1))) := fun k => ZxT _ (hk k).wd (hk k).ok (by rw [(hk k).arcs]; exact har)
  have h4 : ∀ k, Zaa Tryz.prog 105 [lvD (ZcZ a k)] (.int (Za7 (ZcZ a k))) := fun k => Zpu _ (hk k).wd (by rw [(hk k).len]; omega)
  have hbs : ∀ k, Zb9 a (k + 1) = if Za7 (ZcZ a (k + 1)) < Za7 (Zb9 a k) then ZcZ a (k + 1) else Zb9 a k := fun _ => rfl
  have hb0 : Zb9 a 0 = ZcZ a 0 := rfl;have hn0 : ZcZ a 0 = a := rfl;have hre := Zzp r;have hr100 : Zfp r ≤ 100 := by rw [Zfp]; omega
  dsimp only;generalize Zfp r = R at *;rw [← hn0] at h1 h2;rw [show a = ZcZ a 0 from rfl];rw [show Zb9 (ZcZ a 0) = Zb9 a from rfl];clear hk hn0;generalize ZcZ a = W at *;generalize Zb9 a = Bs at *;refine kE Tryz.func103 ?_;intro hat B X w0;have h40 := h4 0;refine kw1 kO (kc1 hre) (kc3 h1 h2 h40) ?_;refine Zai (fun (k : Nat) => k ≤ R) (fun k => [(2, .ptr 2 0 0 0), (4, .ptr 4 0 0 0), (6, .ptr 6 0 0 0), (7, .int (Za7 (Bs k))), (20, .int R), (21, .int k)]) (fun k => [(2, .cells [.int (W k).1, .d (Zae (W k).2.1), .d (Zak (W k).2.2.1), .d (Zae (W k).2.2.2)]), (4, .cells [.int 0, .nilS, .nilS, .nilS]), (6, .cells [.int (Bs k).1, .d (Zae (Bs k).2.1), .d (Zak (Bs k).2.2.1), .d (Zae (Bs k).2.2.2)])]) (fun k => R - k) 0 ?_ ?_ ?_
  ·exact Nat.zero_le _
  ·exact kN (kc1 hb0) []
  ·intro k hk;rcases Nat.lt_or_ge k R with hlt | hge
   ·have c1 := h3 k;have c2 := h4 (k + 1);have e1 := hbs k;by_cases c : Za7 (W (k + 1)) < Za7 (Bs k)
    ·rw [if_pos c] at e1;refine kw1 kO (kc1 c) (kc2 c1 c2) ?_;refine ⟨k + 1, ?_, kN (kc1 e1) [], ?_⟩
     ·omega
     ·omega
    ·rw [if_neg c] at e1;refine kw1 kO (kc1 c) (kc2 c1 c2) ?_;refine ⟨k + 1, ?_, kN (kc1 e1) [], ?_⟩
     ·omega
     ·omega
   ·have : k = R := by omega
    subst this;refine kw1 kO kc0 kc0 ?_;refine ⟨_, rfl, ⟨_, _, _, _, rfl, ?_⟩, Zah rfl, trivial⟩;simp (disch := omega) only [go_sem, simprocAttr, toD]
/-! The reference. -/
end Go.Proofs.YtjjbhjnpeenbkaaGreatDoor
namespace Go.Proofs.YtjjbhjnpeenbkaaGreatDoor
open Go Go.PS Go.Proofs
set_option maxRecDepth 100000
attribute [local irreducible] Zab wpG Zaa Zaf

theorem Ztg (a : Lv) (i : Nat) (u v : Nat) : Zdn a [] (Zaq a.2.1 i) 0 i 0 u v = 0 := by
 rw [Zdn, Zhk]; split <;> rfl
theorem Zsk (a : Lv) (i : Nat) (hw : wide a) (hv : Zax a = true) (hil : i < a.2.1.length) :
  Zaa Tryz.prog 109 [lvD a, .int i] (Zae (orM a i)) := by
 obtain ⟨y, hy⟩ := Zad hil;obtain ⟨t1, t2⟩ := Zcz hv;have hyl := ZcU (List.mem_of_getElem? hy);have hacc := Zjy a [] (Zaq a.2.1 i) (w := 0) (by decide) i;have haccS : ∀ t u v, Zdn a [] (Zaq a.2.1 i) 0 i (t + 1) u v = Zdn a [] (Zaq a.2.1 i) 0 i t u v + Zag (ZaU a i (ZdV i t)) u v := fun _ _ _ => rfl
 have haccZ := Ztg a i;have hMsq : ∀ t, Sq (ZaU a i (ZdV i t)) := fun t => Zj8 a i (ZdV i t)
 have hMlen : ∀ t, (ZaU a i (ZdV i t)).length = 0 ∨ (ZaU a i (ZdV i t)).length = y.length := fun t => by
  rw [ZaU];split
  ·right
   simp [Zcx, Zbb, Zce, hy]
  ·left; rfl
 have hMs : ∀ t, Zaa Tryz.prog 177 [lvD a, .int i, .int (ZdV i t)] (Zae (ZaU a i (ZdV i t))) := fun t => Zn4 a i (ZdV i t) hw
 rw [orM, stM];rw [Zc0 hy] at *;generalize Zdn a [] y 0 i = A at *;obtain ⟨Q, hQ⟩ : ∃ Q : Nat → List (List Int), ∀ t, ZaU a i (ZdV i t) = Q t := ⟨_, fun _ => rfl⟩;simp only [hQ] at *;obtain ⟨N, hN⟩ : ∃ N, N = y.length := ⟨_, rfl⟩;have hN5 : N ≤ 512 := by omega
 obtain ⟨n, ls, ar, cs⟩ := a;dsimp only at *;refine kE Tryz.func109 ?_;intro hat B X w0;refine kw1 kO (kc2 hy hN.symm) kc0 ?_;refine Zav _ (ZhU 1 19 1 N rfl (fun i hi => by simp (disch := omega) only [go_sem, simprocAttr, ZiL, ZdH]) (by decide) (by decide)) ?_;have hiN : ∀ (k : Nat) (x y : List D), k < N → (if k < N then x else y) = x := fun k x y h => if_pos h
 have hz : ∀ u, List.replicate N (D.int 0) = (Za2 (A 0 u) N).map D.int := fun u => by
  rw [Zq6]; congr 1; exact Zgi fun v _ => (haccZ u v).symm
 refine Zef (fun (u : Nat) => u ≤ N) (fun u => [(1, .int i), (2, .ptr 2 0 0 0), (5, .ref 19 1 0 N N), (21, .int N), (22, .int u)]) (fun u => [⟨1, 19, 1, N, fun k => if k < u then (Za2 (A 0 k) N).map D.int else []⟩]) (fun u => [(2, .cells [.int n, .d (Zae ls), .d (Zak ar), .d (Zae cs)])]) (fun u => N - u) 0 ?_ ?_ ?_
 ·exact Nat.zero_le _
 ·refine kF (kc1 hN.symm) [] [] ?_;exact kT0 (kc1 @Nat.not_lt_zero)
 ·intro u hu;rcases Nat.lt_or_ge u N with hlt | hge
  ·have hzu := hz u;have hnu : ¬ u < u := by omega
   have hrl := ZdD (A 0 u) N;have hsu : ∀ i, i ≠ u → ((i < u + 1) = (i < u)) := fun i h => propext (by omega)
   refine Zav _ (ZeQ _ _ [2, 19] 19 u 900 1 1 N (by first | rfl | (simp (disch := omega) only [go_sem, simprocAttr, hnu]; done) | (simp (disch := omega) only [go_sem, simprocAttr, hnu]; rfl)) (by first | (simp (disch := omega) only [go_sem, simprocAttr, hnu]; done) | (simp (disch := omega) only [go_sem, simprocAttr, hnu]; rfl)) (by first | (simp (disch := omega) only [go_sem, simprocAttr, hnu]; done) | (simp (disch := omega) only [go_sem, simprocAttr, hnu]; rfl)) (fun i hi hne => by simp (disch := omega) only [go_sem, simprocAttr, hne, hnu]; (repeat' split) <;> exact .ref _ _ _ _ _ ⟨by simp (disch := omega) only [go_sem, simprocAttr, hne, hnu], by simp (disch := omega) only [go_sem, simprocAttr, hne, hnu]⟩) (by (repeat' first | refine ZeO ?_ | exact ZeY (ids := [2, 19]) rfl rfl (Nat.le_of_ble_eq_true rfl) | refine Ze0 ?_ | refine ZeD ?_ | refine ZeE ?_ | refine Ze3 ?_ | refine ZeU ?_ | refine Ze5 (by dsimp only; omega) (by dsimp only; omega) (by omega) (by omega) (Nat.le_of_ble_eq_true rfl) ?_); done) rfl rfl rfl) ?_;refine kw1 kO (kc2 hN.symm hnu) kc0 ?_;refine ⟨u + 1, ?_, kF kc0 [(fid 1 u, 29)] [] ?_, ?_⟩
   ·omega
   ·exact kT1 (kc6 hzu hrl hnu hsu @Nat.lt_add_one @List.length_map.{0,0}) u
   ·omega
  ·have : N = u := by omega
   subst this
   try dsimp only
   obtain ⟨F, hF⟩ : ∃ F : List D, F = [D.int ((i : Int) - 1), D.int ((i : Int) + 1)] := ⟨_, rfl⟩;have hFl : F.length = 2 := by rw [hF]; rfl
   have hFx : ∀ t, t < 2 → F[t]? = some (D.int (ZdV i t)) := fun t ht => by
    rw [hF];rcases t with _ | _ | t
    ·rfl
    ·rfl
    ·omega
   refine kw1 kO kc0 kc0 ?_;refine Zef (fun (t : Nat) => t ≤ 2) (fun t => [(1, .int i), (2, .ptr 2 0 0 0), (5, .ref 19 1 0 N N), (36, .d (.sl F)), (37, .int 2), (38, .int t)]) (fun t => [⟨1, 19, 1, N, fun k => (Za2 (A t k) N).map D.int⟩]) (fun t => [(2, .cells [.int n, .d (Zae ls), .d (Zak ar), .d (Zae cs)])]) (fun t => 2 - t) 0 ?_ ?_ ?_
   ·exact Nat.zero_le _
   ·refine kF (kc1 hF) [] [] ?_
    repeat' first | exact fmn | refine fmc ⟨?_, ?_⟩
    all_goals refine ⟨_, (by first | rfl | (simp (disch := omega) only [go_sem, simprocAttr, hiN]; done) | (simp (disch := omega) only [go_sem, simprocAttr, hiN]; rfl)), fun i hi => ?_⟩
    all_goals dsimp only at hi ⊢
    all_goals try (exfalso; omega)
    all_goals try (simp (disch := omega) only [go_sem, simprocAttr, hiN, ZeR, Ze1]; done)
   ·intro t ht;rcases Nat.lt_or_ge t 2 with hlt2 | hge2
    ·have hx := hFx t hlt2;have hM := hMs t;have hsq := hMsq t;have hml := hMlen t;have hS := haccS t;generalize hR : Q t = R at *;refine kw1 kO (kc1 hx) (kc1 hM) ?_;refine Zef (fun (c : Nat) => c ≤ R.length) (fun c => [(1, .int i), (2, .ptr 2 0 0 0), (5, .ref 19 1 0 N N), (36, .d (.sl F)), (37, .int 2), (38, .int t), (45, .d (Zae R)), (46, .int R.length), (47, .int c)]) (fun c => [⟨1, 19, 1, N, fun k => if k < c then (Za2 (A (t + 1) k) N).map D.int else (Za2 (A t k) N).map D.int⟩]) (fun c => [(2, .cells [.int n, .d (Zae ls), .d (Zak ar), .d (Zae cs)])]) (fun c => R.length - c) 0 ?_ ?_ ?_
     ·exact Nat.zero_le _
     ·refine kF (kc1 hFl) [] [] ?_;exact kT0 (kc1 @Nat.not_lt_zero)
     ·intro c hc0;rcases Nat.lt_or_ge c R.length with hlc | hgc
      ·have hRN : R.length = N := by omega
       obtain ⟨r, hr⟩ := Zad hlc;have hrl := hsq.row r (List.mem_of_getElem? hr);have hrN : r.length = N := by omega
       have hnu : ¬ c < c := by omega
       refine kw1 kO (kc2 hr hrN) kc0 ?_;refine Zef (fun (b : Nat) => b ≤ N) (fun b => [(1, .int i), (2, .ptr 2 0 0 0), (5, .ref 19 1 0 N N), (9, .int c), (36, .d (.sl F)), (37, .int 2), (38, .int t), (45, .d (Zae R)), (46, .int R.length), (47, .int c), (52, .d (Zac r)), (53, .int N), (54, .int b)]) (fun b => [⟨1, 19, 1, N, fun k => if k < c then (Za2 (A (t + 1) k) N).map D.int else if k = c then (Zcd (A t c) (A (t + 1) c) N b).map D.int else (Za2 (A t k) N).map D.int⟩]) (fun b => [(2, .cells [.int n, .d (Zae ls), .d (Zak ar), .d (Zae cs)])]) (fun b => N - b) 0 ?_ ?_ ?_
       ·exact Nat.zero_le _
       ·refine kF (kc1 hrN) [] [] ?_;exact kT1 (kc2 hnu @ZoA) c
       ·intro b hb;have hfl2 := Ziy (A t c) (A (t + 1) c) N b;rcases Nat.lt_or_ge b N with hlb | hgb
        ·obtain ⟨p, hp, _, hpv, g1, g2⟩ := hsq.get hlc (show b < R.length by omega);rw [hr, Option.some.injEq] at hp;rw [← hp] at hpv;have hcell := hS c b;have ha := hacc t c b;have hg : (Zcd (A t c) (A (t + 1) c) N b)[b]? = some (A t c b) := Zo9 hlb;have hst : (Zcd (A t c) (A (t + 1) c) N b).set b (A (t + 1) c b) = Zcd (A t c) (A (t + 1) c) N (b + 1) := Zpl hlb;rw [hcell] at hst;refine Zav _ (ZeQ _ _ [2, 19] 19 c 900 1 1 N (by first | rfl | (simp (disch := omega) only [go_sem, simprocAttr, hnu, hfl2]; done) | (simp (disch := omega) only [go_sem, simprocAttr, hnu, hfl2]; rfl)) (by first | (simp (disch := omega) only [go_sem, simprocAttr, hnu, hfl2]; done) | (simp (disch := omega) only [go_sem, simprocAttr, hnu, hfl2]; rfl)) (by first | (simp (disch := omega) only [go_sem, simprocAttr, hnu, hfl2]; done) | (simp (disch := omega) only [go_sem, simprocAttr, hnu, hfl2]; rfl)) (fun i hi hne => by simp (disch := omega) only [go_sem, simprocAttr, hne, hnu, hfl2]; (repeat' split) <;> exact .ref _ _ _ _ _ ⟨by simp (disch := omega) only [go_sem, simprocAttr, hne, hnu, hfl2], by simp (disch := omega) only [go_sem, simprocAttr, hne, hnu, hfl2]⟩) (by (repeat' first | refine ZeO ?_ | exact ZeY (ids := [2, 19]) rfl rfl (Nat.le_of_ble_eq_true rfl) | refine Ze0 ?_ | refine ZeD ?_ | refine ZeE ?_ | refine Ze3 ?_ | refine ZeU ?_ | refine Ze5 (by dsimp only; omega) (by dsimp only; omega) (by omega) (by omega) (Nat.le_of_ble_eq_true rfl) ?_); done) rfl rfl rfl) ?_;refine kw1 kO (kc6 hr hrN hpv hg hfl2 hnu) kc0 ?_;refine ⟨b + 1, ?_, kF kc0 [(fid 1 c, 900)] [] ?_, ?_⟩
         ·omega
         ·exact kT1 (kc6 @hst.symm @List.map_set.{0,0} @List.length_set.{0} @List.length_map.{0,0} hfl2 hnu) c
         ·omega
        ·have : N = b := by omega
         subst this;have hsu : ∀ i, i ≠ c → ((i < c + 1) = (i < c)) := fun i h => propext (by omega)
         refine kw1 kO kc0 kc0 ?_;refine ⟨c + 1, ?_, kF kc0 [] [] ?_, ?_⟩
         ·omega
         ·exact kT1 (kc4 hnu hsu @Nat.lt_add_one @ZpK) c
         ·omega
      ·have : R.length = c := by omega
       subst this;refine kw1 kO kc0 kc0 ?_;rcases hml with hml | hml
       ·have hsame : ∀ k, Za2 (A (t + 1) k) N = Za2 (A t k) N := fun k => Zgi fun v _ => by
         rw [hS, Zag, ZhM (by omega)]; simp [at0]
        refine ⟨t + 1, ?_, kF kc0 [] [] ?_, ?_⟩
        ·omega
        ·exact kT0 (kc3 hml @Nat.not_lt_zero @hsame)
        ·omega
       ·have hRN : R.length = N := by omega
        refine ⟨t + 1, ?_, kF kc0 [] [] ?_, ?_⟩
        ·omega
        ·repeat' first | exact fmn | refine fmc ⟨?_, ?_⟩
         all_goals refine ⟨_, (by first | rfl | (simp (disch := omega) only [go_sem, simprocAttr, hRN, hiN]; done) | (simp (disch := omega) only [go_sem, simprocAttr, hRN, hiN]; rfl)), fun i hi => ?_⟩
         all_goals dsimp only at hi ⊢
         all_goals try (exfalso; omega)
         all_goals try (simp (disch := omega) only [go_sem, simprocAttr, hRN, hiN, ZeR, Ze1]; done)
        ·omega
    ·have : t = 2 := by omega
     subst this
     try dsimp only
     refine Zav _ (Zia _ _ _ _ ⟨Zbc rfl, Zbc rfl, (by (repeat' first | exact fmn | refine fmc ⟨⟨Nat.le_of_ble_eq_true rfl, Nat.le_of_ble_eq_true rfl, by dsimp only; omega⟩, ?_⟩); done)⟩ rfl [2, 19] rfl rfl rfl rfl) ?_;refine kw1 kO kc0 kc0 ?_;refine Zdb (o := 19) rfl rfl (by simp) ?_;rw [List.take_of_length_le (by simp), sqM, List.map_map];rfl
end Go.Proofs.YtjjbhjnpeenbkaaGreatDoor
namespace Go.Proofs.YtjjbhjnpeenbkaaGreatDoor
open Go Go.PS Go.Proofs
open Go.Bd (sm Zam Part)
set_option maxRecDepth 100000
attribute [local irreducible] Zab wpG Zaa Zaf

theorem Ztj (a : Lv) (h : Zax a = true) : Zaa Tryz.prog 167 [lvD a] (lvD a) := by
 obtain ⟨s1, s2, s3⟩ := ZhE h;obtain ⟨t1, t2⟩ := Zcz h;have hca := Zm6 a.2.2.1 (by omega);have hl1 : ∀ (k : Nat) x, a.2.1[k]? = some x → Zaa Tryz.prog 214 [Zac x] (Zac x) := fun k x hx => ZhG x (by have := ZcU (List.mem_of_getElem? hx); omega)
 have hl2 : ∀ (k : Nat) x, a.2.2.2[k]? = some x → Zaa Tryz.prog 214 [Zac x] (Zac x) := fun k x hx => ZhG x (by have := s3 x (List.mem_of_getElem? hx); omega)
 obtain ⟨n, ls, ar, cs⟩ := a;dsimp only at *;refine kE Tryz.func167 ?_;intro hat B X w0;refine kw1 kO kc0 (kc1 hca) ?_;refine Zav _ (Zcs 3 1 901 1 rfl rfl rfl) ?_;refine Zai (fun (k : Nat) => k ≤ ls.length) (fun k => [(1, .ptr 1 0 0 0), (2, .ptr 2 0 0 0), (3, .ptr 3 0 0 0), (15, .d (Zae ls)), (16, .int ls.length), (17, .int k)]) (fun k => [(1, .cells [.int n, .d (Zae ls), .d (Zak ar), .d (Zae cs)]), (2, .cells [.int 0, .nilS, .nilS, .nilS]), (3, .cells [.int n, .ref 901 1 0 k k, .d (Zak ar), .nilS]), (901, .row 1 ((ls.take k).map Zac))]) (fun k => ls.length - k) 0 ?_ ?_ ?_
 ·exact Nat.zero_le _
 ·exact kN (kc2 @List.take_zero.{0} @List.map_nil.{0,0}) []
 ·intro k hk;have hlk : (ls.take k).length = k := by rw [List.length_take]; omega
  have htk : ((ls.take k).map Zac).take k = (ls.take k).map Zac := List.take_of_length_le (by rw [List.length_map, hlk]; exact Nat.le_refl _);rcases Nat.lt_or_ge k ls.length with hlt | hge
  ·obtain ⟨x, hx⟩ := Zad hlt;have hc1 := hl1 k x hx;have e1 := ZaD hx
   repeat' first | refine ZaK rfl ?_ | refine ZaF ?_ | refine wR ?_ | (refine rc (hc1) rfl ?_ ?_; (· first | rfl | simp (disch := omega) only [go_sem, simprocAttr, hx, hlk, htk, roomy])) | (refine ZaM rfl rfl (fun hc => ?_) (fun hc => ?_) <;> try simp only [hcL] at hc) | (refine ZaL _ rfl rfl (fun hc => ?_) (fun hc => ?_) <;> (try simp only [hcL] at hc) <;> try omega) | simp (disch := omega) only [go_sem, simprocAttr, hx, hlk, htk, roomy] | exact fun d hd => by rw [List.mem_singleton.1 hd]; rfl | apply And.intro | omega | decide +kernel
   refine ⟨k + 1, ?_, kN (kc5 e1 htk @List.map_append.{0,0} @List.map_cons.{0,0} @List.map_nil.{0,0}) [(901, 26)], ?_⟩
   ·omega
   ·omega
  ·have : k = ls.length := by omega
   subst this
   try dsimp only
   rw [List.take_length];refine kw1 kO kc0 kc0 ?_;refine Zav _ (Zcs 3 3 902 1 rfl rfl rfl) ?_;refine Zai (fun (k : Nat) => k ≤ cs.length) (fun k => [(2, .ptr 2 0 0 0), (3, .ptr 3 0 0 0), (30, .d (Zae cs)), (31, .int cs.length), (32, .int k)]) (fun k => [(2, .cells [.int 0, .nilS, .nilS, .nilS]), (3, .cells [.int n, .ref 901 1 0 ls.length ls.length, .d (Zak ar), .ref 902 1 0 k k]), (901, .row 1 (ls.map Zac)), (902, .row 1 ((cs.take k).map Zac))]) (fun k => cs.length - k) 0 ?_ ?_ ?_
   ·exact Nat.zero_le _
   ·exact kN (kc2 @List.take_zero.{0} @List.map_nil.{0,0}) []
   ·intro k hk;have hlk : (cs.take k).length = k := by rw [List.length_take]; omega
    have htk : ((cs.take k).map Zac).take k = (cs.take k).map Zac := List.take_of_length_le (by rw [List.length_map, hlk]; exact Nat.le_refl _);rcases Nat.lt_or_ge k cs.length with hlt | hge
    ·obtain ⟨x, hx⟩ := Zad hlt;have hc1 := hl2 k x hx;have e1 := ZaD hx
     repeat' first | refine ZaK rfl ?_ | refine ZaF ?_ | refine wR ?_ | (refine rc (hc1) rfl ?_ ?_; (· first | rfl | simp (disch := omega) only [go_sem, simprocAttr, hx, hlk, htk, roomy])) | (refine ZaM rfl rfl (fun hc => ?_) (fun hc => ?_) <;> try simp only [hcL] at hc) | (refine ZaL _ rfl rfl (fun hc => ?_) (fun hc => ?_) <;> (try simp only [hcL] at hc) <;> try omega) | simp (disch := omega) only [go_sem, simprocAttr, hx, hlk, htk, roomy] | exact fun d hd => by rw [List.mem_singleton.1 hd]; rfl | apply And.intro | omega | decide +kernel
     refine ⟨k + 1, ?_, kN (kc5 e1 htk @List.map_append.{0,0} @List.map_cons.{0,0} @List.map_nil.{0,0}) [(902, 41)], ?_⟩
     ·omega
     ·omega
    ·have : k = cs.length := by omega
     subst this
     try dsimp only
     rw [List.take_length];refine kw1 kO kc0 kc0 ?_;refine ⟨_, _, _, _, rfl, ?_⟩;simp (disch := omega) only [go_sem, simprocAttr, toD, List.length_map, Nat.le_refl, List.drop_zero];rw [Zat, Zat]
def Zdx (m : List (List Int)) (A b : Nat) : Int := sm (fun j => if A < j then Zag m A j else 0) b
def Zf4 (m : List (List Int)) (A : Nat) : Int := sm (fun A => Zdx m A m.length) A
theorem Zpr {m : List (List Int)} (hs : Sq m) (A b : Nat) : 0 ≤ Zdx m A b ∧ Zdx m A b ≤ 1000000 * b := Go.Bd.sm_bounds b fun k _ => by
 have := Zry hs A k;split <;> omega
theorem ZuJ {m : List (List Int)} (hs : Sq m) (h8 : m.length ≤ 8) (A : Nat) : 0 ≤ Zf4 m A ∧ Zf4 m A ≤ 8000000 * A :=
 Go.Bd.sm_bounds A fun k _ => by
  have := Zpr hs k m.length;omega
theorem Zo4 (m : List (List Int)) (A : Nat) : ∀ n, A < n → Zdx m A n = sm (fun j => Zag m A (A + 1 + j)) (n - 1 - A)
 | 0, h => by omega
 | n + 1, h => by
  have e : Zdx m A (n + 1) = Zdx m A n + (if A < n then Zag m A n else 0) := rfl;rw [e];by_cases c : A < n
  ·rw [Zo4 m A n c, if_pos c, show n + 1 - 1 - A = (n - 1 - A) + 1 by omega];have e2 : sm (fun j => Zag m A (A + 1 + j)) (n - 1 - A + 1) = sm (fun j => Zag m A (A + 1 + j)) (n - 1 - A) + Zag m A (A + 1 + (n - 1 - A)) := rfl;rw [e2, show A + 1 + (n - 1 - A) = n by omega]
  ·have : n = A := by omega
   subst this;have z : ∀ k, k ≤ n → Zdx m n k = 0 := by
    intro k
    induction k with
    | zero => intro _; rfl
    | succ k ih =>
     intro hk;have e3 : Zdx m n (k + 1) = Zdx m n k + (if n < k then Zag m n k else 0) := rfl;rw [e3, ih (by omega), if_neg (by omega)]; rfl
   rw [z n (Nat.le_refl _), if_neg c, show n + 1 - 1 - n = 0 by omega]; rfl
theorem sm_congr {f g : Nat → Int} : ∀ n, (∀ k, k < n → f k = g k) → sm f n = sm g n
 | 0, _ => rfl
 | n + 1, h => by
  have e : ∀ f : Nat → Int, sm f (n + 1) = sm f n + f n := fun _ => rfl
  rw [e, e, sm_congr n fun k hk => h k (by omega), h n (by omega)]
theorem ZrW (m : List (List Int)) : Zf4 m m.length = Zam (Zag m) (List.range m.length) := by
 rw [Go.Bd.sumC_range, Zf4];exact sm_congr _ fun A hA => Zo4 m A _ hA
theorem Zqp (l : List Int) (hl : l.length ≤ 1000000) : Zaa Tryz.prog 52 [Zac l] (.bool (decide (l.length ≤ 8))) := by
 refine kE Tryz.func52 ?_;intro hat B X w0;refine kw1 kO kc0 kc0 ?_;exact Zaj (by rw [Bool.eq_iff_iff]; simp only [decide_eq_true_eq]; omega)
theorem Zp9 (a : Lv) (i : Nat) (hw : wide a) (hv : Zax a = true) (har : a.2.2.1.length ≤ 700) (hil : i < a.2.1.length) :
  Zaa Tryz.prog 53 [lvD a, .int i] (.tup [Zcc (Zb6 a i).1, .bool (Zb6 a i).2]) := by
 obtain ⟨y, hy⟩ := Zad hil;have hyl := ZcU (List.mem_of_getElem? hy);obtain ⟨t1, t2⟩ := Zcz hv;have h1 := Zqp y (by omega);rw [Zb6, Zc0 hy];by_cases h8 : 8 < y.length
 ·rw [if_pos h8];rw [decide_eq_false (by omega)] at h1;obtain ⟨n, ls, ar, cs⟩ := a;dsimp only at *;refine kE Tryz.func53 ?_;intro hat B X w0;refine kw1 kO (kc1 hy) (kc1 h1) ?_;exact ⟨_, rfl, ZcI rfl, Zaj rfl, trivial⟩
 ·rw [if_neg h8];rw [decide_eq_true (by omega)] at h1;have h2 := Zsk a i hw hv hil;have hmok := ZyU (i := i) har (by rw [Zc0 hy]; exact h8);have h3 := ZnK (orM a i);rw [if_pos hmok] at h3;obtain ⟨hs, hm8⟩ := Zk8 hmok;have hml := Zro a i;rw [Zc0 hy] at hml;have hns := ZrW (orM a i);have hbb : 0 ≤ (Zcp (orM a i)).2 ∧ (Zcp (orM a i)).2 ≤ 64000000 := by
   obtain ⟨g1, g2, _⟩ := Go.Bd.best_bounds hs.small hm8 (ZiK _) (ZlA (orM a i));exact ⟨g1, g2⟩
  rw [Zfk, Zc0 hy, ← hml, ← hns];have hni := Zpr hs;have hnt := ZuJ hs hm8;have hIs : ∀ A b, Zdx (orM a i) A (b + 1) = Zdx (orM a i) A b + (if A < b then Zag (orM a i) A b else 0) := fun _ _ => rfl
  have hTs : ∀ A, Zf4 (orM a i) (A + 1) = Zf4 (orM a i) A + Zdx (orM a i) A (orM a i).length := fun _ => rfl
  have hI0 : ∀ A, Zdx (orM a i) A 0 = 0 := fun _ => rfl
  have hT0 : Zf4 (orM a i) 0 = 0 := rfl;generalize orM a i = m at *;generalize Zdx m = I at *;generalize Zf4 m = T at *;generalize Zcp m = BB at *;obtain ⟨p, cost⟩ := BB;obtain ⟨n, ls, ar, cs⟩ := a;dsimp only at *;refine kE Tryz.func53 ?_;intro hat B X w0;refine kw1 kO (kc1 hy) (kc2 h1 h2) ?_;refine Zai (fun (u : Nat) => u ≤ m.length) (fun u => [(6, .d (Zae m)), (7, .int (T u)), (24, .int m.length), (25, .int u)]) (fun u => []) (fun u => m.length - u) 0 ?_ ?_ ?_
  ·exact Nat.zero_le _
  ·exact kN (kc1 hT0) []
  ·intro u hu;have b1 := hnt u;rcases Nat.lt_or_ge u m.length with hlt | hge
   ·have e1 := hTs u;refine kw1 kO kc0 kc0 ?_;refine Zai (fun (b : Nat) => b ≤ m.length) (fun b => [(6, .d (Zae m)), (7, .int (T u + I u b)), (8, .int u), (24, .int m.length), (25, .int u), (29, .int m.length), (30, .int b)]) (fun b => []) (fun b => m.length - b) 0 ?_ ?_ ?_
    ·exact Nat.zero_le _
    ·exact kN (kc2 hI0 @Int.add_zero) []
    ·intro b hb;have b2 := hni u b;rcases Nat.lt_or_ge b m.length with hlb | hgb
     ·obtain ⟨q, hq, hql, hqv, g1, g2⟩ := hs.get hlt hlb;have e2 := hIs u b;by_cases c : u < b
      ·rw [if_pos c] at e2;refine kw1 kO (kc4 hq hqv hql c) kc0 ?_;refine ⟨b + 1, ?_, kN (kc2 e2 @Int.add_assoc) [], ?_⟩
       ·omega
       ·omega
      ·rw [if_neg c, Int.add_zero] at e2;refine kw1 kO (kc1 c) kc0 ?_;refine ⟨b + 1, ?_, kN (kc1 e2) [], ?_⟩
       ·omega
       ·omega
     ·have : b = m.length := by omega
      subst this;refine kw1 kO kc0 kc0 ?_;refine ⟨u + 1, ?_, kN (kc1 e1) [], ?_⟩
      ·omega
      ·omega
   ·have : u = m.length := by omega
    subst this;refine kw1 kO kc0 (kc1 h3) ?_;refine ⟨_, rfl, ZcI rfl, Zaj ?_, trivial⟩;rw [Bool.eq_iff_iff]
theorem Zx7 (a : Lv) (i : Nat) (o : List Nat) (hw : wide a) (hv : Zax a = true) (hil : i < a.2.1.length) (ho : Part (Zaq a.2.1 i).length 0 o) :
  Zaa Tryz.prog 168 [lvD a, .int i, Zcc o] (lvD (ZbQ a i (ZaH (Zaq a.2.1 i) o))) := by
 obtain ⟨y, hy⟩ := Zad hil;have hyl := ZcU (List.mem_of_getElem? hy);obtain ⟨t1, t2⟩ := Zcz hv;rw [Zc0 hy] at ho ⊢;have hol := ho.len;have hr := Zog a i (ZaH y o) hw (by rw [Zlv]; omega);rw [ZyC hv hy ho] at hr;generalize ZbQ a i (ZaH y o) = P at *;obtain ⟨n', ls', ar', cs'⟩ := P;obtain ⟨n, ls, ar, cs⟩ := a;dsimp only at *;refine kE Tryz.func168 ?_;intro hat B X w0;refine kw1 kO kc0 kc0 ?_;refine Zav _ (ZdU 7 901 1 rfl rfl) ?_;refine Zai (fun (k : Nat) => k ≤ o.length) (fun k => [(1, .int i), (3, .ptr 3 0 0 0), (6, .ptr 6 0 0 0), (7, .ref 901 1 0 k k), (12, .d (Zcc o)), (13, .int o.length), (14, .int k)]) (fun k => [(3, .cells [.int n, .d (Zae ls), .d (Zak ar), .d (Zae cs)]), (6, .cells [.int 0, .nilS, .nilS, .nilS]), (901, .row 1 (((ZaH y o).take k).map D.int))]) (fun k => o.length - k) 0 ?_ ?_ ?_
 ·exact Nat.zero_le _
 ·exact kN (kc2 @List.take_zero.{0} @List.map_nil.{0,0}) []
 ·intro k hk;have hlk : ((ZaH y o).take k).length = k := by rw [List.length_take, Zlv]; omega
  have htk : (((ZaH y o).take k).map D.int).take k = ((ZaH y o).take k).map D.int := List.take_of_length_le (by rw [List.length_map, hlk]; exact Nat.le_refl _);rcases Nat.lt_or_ge k o.length with hlt | hge
  ·obtain ⟨q, hq⟩ := Zad hlt;have hqn := ho.lt q (List.mem_of_getElem? hq);have hyq : y[q]? = some (yG y q) := by rw [yG, List.getElem?_eq_getElem hqn]; rfl
   have e1 : (ZaH y o).take (k + 1) = (ZaH y o).take k ++ [yG y q] := ZaD (by rw [ZaH, List.getElem?_map, hq]; rfl);generalize (ZaH y o).take k = R at *;refine kw1 kO (kc5 hy hq hyq hlk htk) kc0 ?_;refine ⟨k + 1, ?_, kN (kc5 e1 htk @List.map_append.{0,0} @List.map_cons.{0,0} @List.map_nil.{0,0}) [(901, 28)], ?_⟩
   ·omega
   ·omega
  ·have : k = o.length := by omega
   subst this;have hfull : (ZaH y o).take o.length = ZaH y o := List.take_of_length_le (by rw [Zlv]; exact Nat.le_refl _);rw [hfull] at hlk htk;rw [hfull];refine Zav _ (Zc5 901 1 ((ZaH y o).map D.int) rfl (ZcR _ rfl) (by decide)) ?_;refine kw1 kO (kc3 hlk htk @List.drop_zero.{0}) (kc1 hr) ?_;refine ⟨_, _, _, _, rfl, ?_⟩;simp (disch := omega) only [go_sem, simprocAttr, toD]
theorem Zwr (a : Lv) (i : Int) (hw : wide a) (har : a.2.2.1.length ≤ 700) : Zaa Tryz.prog 14 [lvD a, .int i] (.bool (Zjp a i)) := by
 have h1 := ZgQ a hw;rw [Zjp];rcases hv : Zax a with _ | _ <;> rw [hv] at h1
 ·refine kE Tryz.func14 ?_;intro hat B X w0;refine kw1 kO kc0 (kc1 h1) ?_;exact Zaj rfl
 ·obtain ⟨t1, t2⟩ := Zcz hv;by_cases hi : 0 ≤ i ∧ i < a.2.1.length
  ·rw [decide_eq_true hi];obtain ⟨i, rfl⟩ : ∃ n : Nat, i = n := ⟨i.toNat, by omega⟩;rw [Int.toNat_natCast];obtain ⟨y, hy⟩ := Zad (l := a.2.1) (k := i) (by omega);have hyl := ZcU (List.mem_of_getElem? hy);have h2 := Zqp y (by omega);have h3 := Zp9 a i hw hv har (by omega);rw [Zb6] at h3;rw [Zc0 hy] at *;by_cases h8 : 8 < y.length
   ·rw [decide_eq_false (fun h => h h8)];rw [decide_eq_false (by omega)] at h2;obtain ⟨n, ls, ar, cs⟩ := a;dsimp only at *;refine kE Tryz.func14 ?_;intro hat B X w0;refine kw1 kO (kc1 hy) (kc2 h1 h2) ?_
    all_goals exact Zaj rfl
   ·rw [decide_eq_true h8];rw [decide_eq_true (by omega)] at h2;rw [if_neg h8] at h3;generalize Zfk a i = b at *;generalize Zcp (orM a i) = BB at *;obtain ⟨n, ls, ar, cs⟩ := a;dsimp only at *;refine kE Tryz.func14 ?_;intro hat B X w0;refine kw1 kO (kc1 hy) (kc3 h1 h2 h3) ?_;exact Zaj (by simp)
  ·rw [decide_eq_false hi];obtain ⟨n, ls, ar, cs⟩ := a;dsimp only at *;refine kE Tryz.func14 ?_;intro hat B X w0;refine kw kO kc0 (kc1 h1) ?_
   repeat' first | exact True.intro | refine Bn.mk ?_ ?_ | intro hc
   all_goals exact Zaj rfl
theorem Zyi (a : Lv) (hw : wide a) (har : a.2.2.1.length ≤ 700) : Zaa Tryz.prog 104 [lvD a] (lvD (if Zax a then Zdv a else lv0)) := by
 have h1 := ZgQ a hw;rcases hv : Zax a with _ | _ <;> rw [hv] at h1
 ·rw [if_neg (by decide)];refine kE Tryz.func104 ?_;intro hat B X w0;refine kw1 kO kc0 (kc1 h1) ?_;refine ⟨_, _, _, _, rfl, ?_⟩;simp (disch := omega) only [go_sem, simprocAttr, toD];rfl
 ·rw [if_pos rfl];obtain ⟨t1, t2⟩ := Zcz hv;have h2 := Ztj a hv;have hK0 := Kin.refl hv hw;have h3 : ∀ (b : Lv) (i : Nat), Kin a b → i < a.2.1.length → Zaa Tryz.prog 53 [lvD b, .int i] (.tup [Zcc (Zb6 b i).1, .bool (Zb6 b i).2]) := fun b i h hi => Zp9 b i h.wd h.ok (by rw [h.arcs]; exact har) (by rw [h.len]; exact hi)
  have h4 : ∀ (b : Lv) (i : Nat), Kin a b → i < a.2.1.length → (Zb6 b i).2 = true → Zaa Tryz.prog 168 [lvD b, .int i, Zcc (Zb6 b i).1] (lvD (Zez b i)) := fun b i h hi hb => by
   have hy := Zlm hb;have e : (Zb6 b i).1 = (Zcp (orM b i)).1 := by rw [Zb6, if_neg hy.1]
   rw [e];exact Zx7 b i _ h.wd h.ok (by rw [h.len]; exact hi) (Zmj b i)
  obtain ⟨M, hM⟩ : ∃ M, M = ZdK a 0 := ⟨_, rfl⟩;rw [Zdv, ← hM];generalize hR : ZbX M a 0 = R;obtain ⟨L, hL⟩ : ∃ L, L = a.2.1.length := ⟨_, rfl⟩;rw [← hL] at h3 h4 t1;refine kE Tryz.func104 ?_;intro hat B X w0;refine kw1 kO kc0 (kc2 h1 h2) ?_;refine Zai (fun (q : Nat × Lv × Nat) => match q with | (f, b, i) => Kin a b ∧ ZdK b i ≤ f ∧ i ≤ L ∧ ZbX f b i = R) (fun (f, b, i) => [(1, .ptr 1 0 0 0), (2, .ptr 2 0 0 0), (3, .int i)]) (fun (f, b, i) => [(1, .cells [.int b.1, .d (Zae b.2.1), .d (Zak b.2.2.1), .d (Zae b.2.2.2)]), (2, .cells [.int 0, .nilS, .nilS, .nilS])]) (fun (f, b, i) => f) (M, a, 0) ?_ ?_ ?_
  ·exact ⟨hK0, Nat.le_of_eq hM.symm, Nat.zero_le _, hR⟩
  ·exact kN kc0 []
  ·rintro ⟨f, b, i⟩ ⟨hK, hms, hi, hres⟩;dsimp only at hK hms hi hres ⊢;have hbl : b.2.1.length = L := by rw [hK.len, hL]
   rcases Nat.lt_or_ge i L with hlt | hge
   ·have hf : 0 < f := by
     have : ZdK b i = (Za7 b).toNat * (b.2.1.length + 1) + (b.2.1.length - i) := rfl;omega
    obtain ⟨f, rfl⟩ : ∃ g, f = g + 1 := ⟨f - 1, by omega⟩;rw [ZbX, if_pos (by omega)] at hres;have c1 := h3 b i hK hlt;rcases hb : (Zb6 b i).2 with _ | _
    ·rw [hb] at c1;rw [hb, if_neg (by decide)] at hres;have hs := Zqb (b := b) (i := i) (by omega);clear h3 h4;obtain ⟨n, ls, ar, cs⟩ := b;dsimp only at hbl hb c1 ⊢;refine kw1 kO (kc1 hbl) (kc1 c1) ?_;refine ⟨(f, (n, ls, ar, cs), i + 1), ?_, kN (kc2 @Int.natCast_add @Int.natCast_one) [], ?_⟩
     ·exact ⟨hK, by dsimp only; omega, hlt, hres⟩
     ·exact Nat.lt_succ_self _
    ·have c2 := h4 b i hK hlt hb;rw [hb] at c1;rw [hb, if_pos rfl] at hres;have hs := Zpy hK (by omega) (Zlm hb).2;have hK2 := Zmc hK (i := i) (by omega);clear h3 h4;generalize Zez b i = P at *;obtain ⟨n, ls, ar, cs⟩ := b;dsimp only at hbl hb c1 c2 ⊢;refine kw1 kO (kc1 hbl) (kc2 c1 c2) ?_;refine ⟨(f, P, 0), ?_, kN kc0 [], ?_⟩
     ·exact ⟨hK2, by dsimp only; omega, Nat.zero_le _, hres⟩
     ·exact Nat.lt_succ_self _
   ·rw [ZpQ (by omega)] at hres;subst hres;obtain ⟨n, ls, ar, cs⟩ := b;dsimp only at hbl ⊢;refine kw1 kO (kc1 hbl) kc0 ?_;refine ⟨_, _, _, _, rfl, ?_⟩;simp (disch := omega) only [go_sem, simprocAttr, toD]
def Zg2 (a : Lv) (r : Int) : Lv × Int × Int :=
 if Zax a = true ∧ 0 ≤ r ∧ r ≤ 100 then (Zdv (Zb9 a r.toNat), Za7 (Zdv (Zb9 a r.toNat)), 0) else (lv0, 0, 1)
theorem ZzX (a : Lv) (r : Int) (hw : wide a) (har : a.2.2.1.length ≤ 700) : Zaa Tryz.prog 50 [lvD a, .int r] (.tup [lvD (Zg2 a r).1, .int (Zg2 a r).2.1, .int (Zg2 a r).2.2]) := by
 have h1 := ZgQ a hw;rw [Zg2];by_cases hall : Zax a = true ∧ 0 ≤ r ∧ r ≤ 100
 ·rw [if_pos hall];obtain ⟨hv, hr0, hr1⟩ := hall;rw [hv] at h1;obtain ⟨t1, t2⟩ := Zcz hv;have hb := ZxE a r hw har;have hrr : Zfp r = r.toNat := by rw [Zfp]; omega
  rw [ZjQ, if_pos hv, hrr] at hb;have hK := Zl4 hv hw r.toNat;have h3 := Zyi (Zb9 a r.toNat) hK.wd (by rw [hK.arcs]; exact har);rw [if_pos hK.ok] at h3;have hK2 := (Ztt hK.ok hK.wd).1;have h4 := Zpu (Zdv (Zb9 a r.toNat)) hK2.wd (by rw [hK2.len, hK.len]; omega);dsimp only at hb ⊢;generalize Zdv (Zb9 a r.toNat) = Q at *;generalize Zb9 a r.toNat = P at *;generalize Za7 P = tp at *;generalize Za7 Q = tq at *;clear hK hK2;obtain ⟨n1, ls1, ar1, cs1⟩ := Q;obtain ⟨n2, ls2, ar2, cs2⟩ := P;refine kE Tryz.func50 ?_;intro hat B X w0;refine kw1 kO kc0 (kc4 h1 hb h3 h4) ?_;refine ⟨_, rfl, ⟨_, _, _, _, rfl, ?_⟩, Zah rfl, Zah rfl, trivial⟩;simp (disch := omega) only [go_sem, simprocAttr, toD]
 ·rw [if_neg hall];rcases hv : Zax a with _ | _ <;> rw [hv] at h1
  ·refine kE Tryz.func50 ?_;intro hat B X w0;refine kw1 kO kc0 (kc1 h1) ?_;refine ⟨_, rfl, ⟨_, _, _, _, rfl, ?_⟩, Zah rfl, Zah rfl, trivial⟩;simp (disch := omega) only [go_sem, simprocAttr, toD];rfl
  ·have hn : ¬ (0 ≤ r ∧ r ≤ 100) := fun h => hall ⟨hv, h⟩
   refine kE Tryz.func50 ?_;intro hat B X w0;refine kw kO kc0 (kc1 h1) ?_
   repeat' first | exact True.intro | refine Bn.mk ?_ ?_ | intro hc
   all_goals
    refine ⟨_, rfl, ⟨_, _, _, _, rfl, ?_⟩, Zah rfl, Zah rfl, trivial⟩;simp (disch := omega) only [go_sem, simprocAttr, toD];rfl
end Go.Proofs.YtjjbhjnpeenbkaaGreatDoor
namespace Go.Proofs.YtjjbhjnpeenbkaaGreatDoor
open Go Go.PS Go.Proofs
set_option maxRecDepth 100000
attribute [local irreducible] Zab wpG Zaa Zaf
end Go.Proofs.YtjjbhjnpeenbkaaGreatDoor
namespace Go.Proofs.YtjjbhjnpeenbkaaGreatDoor
open Go Go.PS Go.Proofs
open Go.Bd (sm Zam Part)
set_option maxRecDepth 100000
attribute [local irreducible] Zab wpG Zaa Zaf

end Go.Proofs.YtjjbhjnpeenbkaaGreatDoor
namespace Go.Proofs.YtjjbhjnpeenbkaaGreatDoor
open Go Go.PS Go.Proofs
set_option maxRecDepth 100000
attribute [local irreducible] Zab wpG Zaa Zaf

end Go.Proofs.YtjjbhjnpeenbkaaGreatDoor
namespace Go.Proofs.YtjjbhjnpeenbkaaGreatDoor
open Go Go.PS Go.Proofs
open Go.Bd (sm Zam Part)
set_option maxRecDepth 100000
attribute [local irreducible] Zab wpG Zaa Zaf

/-! The chapter's example. -/
theorem Zxd {a b : Lv} (h : Kin a b) : Kin a (Zdv b) ∧ Za7 (Zdv b) ≤ Za7 b ∧ ∀ j, j < a.2.1.length → (Zb6 (Zdv b) j).2 = false :=
 Zjr _ b 0 h (Nat.le_refl _) (Nat.zero_le _) (fun j hlj => absurd hlj (Nat.not_lt_zero j))
theorem Zy1 {a b : Lv} (h : Kin a b) {i : Nat} (hi : i < a.2.1.length) (h8 : (Zaq a.2.1 i).length ≤ 8) (hb : (Zb6 b i).2 = false) : Zjp b i = true := by
 have hl := h.llen i;rw [Zb6, if_neg (by omega)] at hb;have h1 := h.len;rw [Zjp, h.ok, decide_eq_true (by omega), Int.toNat_natCast, decide_eq_true (by omega), show Zfk b i = false from hb]; rfl
end Go.Proofs.YtjjbhjnpeenbkaaGreatDoor
namespace Go.Proofs.YtjjbhjnpeenbkaaGreatDoor.Sx
open Go Go.PS Go.Proofs
set_option maxRecDepth 100000
attribute [local irreducible] Zab wpG Zaa

abbrev Bd := Int × Int × Int × Int
abbrev bdD (b : Bd) : D := .ag [.int b.1, .int b.2.1, .int b.2.2.1, .int b.2.2.2]
abbrev Zea (l : List Bd) : D := .sl (l.map bdD)
abbrev Zac (l : List Int) : D := .sl (l.map D.int)
abbrev Net := Int × List Bd
abbrev nD (n : Net) : D := .ag [.int n.1, Zea n.2]
theorem Ziq (a b : Int) : (if b < a then b else a) = min a b := by omega
theorem Zkq (a b : Int) : (if a < b then b else a) = max a b := by omega
def bdIn (n : Int) (b : Bd) : Bool := decide (0 ≤ b.1 ∧ b.1 < n ∧ 0 ≤ b.2.1 ∧ b.2.1 < n ∧ b.1 ≠ b.2.1 ∧ -16777216 ≤ b.2.2.1 ∧ b.2.2.1 ≤ 16777216 ∧ 0 ≤ b.2.2.2 ∧ b.2.2.2 ≤ 8000)
def nOk (n : Net) : Bool := decide (0 ≤ n.1 ∧ n.1 ≤ 2048 ∧ n.2.length ≤ 4096) && !n.2.any (fun b => !bdIn n.1 b)
theorem Zgx {n : Net} (h : nOk n = true) : 0 ≤ n.1 ∧ n.1 ≤ 2048 ∧ n.2.length ≤ 4096 ∧ ∀ (k : Nat) b, n.2[k]? = some b →
  0 ≤ b.1 ∧ b.1 < n.1 ∧ 0 ≤ b.2.1 ∧ b.2.1 < n.1 ∧ b.1 ≠ b.2.1 ∧ -16777216 ≤ b.2.2.1 ∧ b.2.2.1 ≤ 16777216 ∧ 0 ≤ b.2.2.2 ∧ b.2.2.2 ≤ 8000 := by
 simp only [nOk, Bool.and_eq_true, decide_eq_true_eq, Bool.not_eq_true', List.any_eq_false] at h;obtain ⟨⟨h1, h2, h3⟩, h4⟩ := h;refine ⟨h1, h2, h3, fun k b hk => ?_⟩;have := h4 b (List.mem_of_getElem? hk);simpa [bdIn] using this
theorem ZfA (g : Net) : Zaa Tryz.prog 159 [nD g] (.bool (nOk g)) := by
 obtain ⟨n, l⟩ := g;refine kE Tryz.func159 ?_;intro hat B X w0;have hl := Zb8 0 1 hat rfl rfl;rw [List.length_map] at hl;refine kw kO kc0 kc0 ?_
 repeat' first | exact True.intro | refine Bn.mk ?_ ?_ | intro hc
 all_goals try (refine Zaj ?_; simp [nOk]; omega)
 refine Zai (fun (k : Nat) => k ≤ l.length ∧ ∀ (j : Nat) y, j < k → l[j]? = some y → (!bdIn n y) = false) (fun k => [(1, .ptr 1 0 0 0), (20, .d (Zea l)), (21, .int l.length), (22, .int k)]) (fun k => [(1, .cells [.int n, .d (Zea l)])]) (fun k => l.length - k) 0 ?_ ?_ ?_
 ·exact ⟨Nat.zero_le _, fun j y h => by omega⟩
 ·exact kN kc0 []
 ·rintro k ⟨hk, hinv⟩;rcases Nat.lt_or_ge k l.length with hlt | hge
  ·obtain ⟨p, hp⟩ := Zad hlt
   repeat' first | refine ZaK rfl ?_ | refine ZaF ?_ | refine wR ?_ | (refine ZaM rfl rfl (fun hc => ?_) (fun hc => ?_) <;> try simp only [hcL] at hc) | (refine ZaL _ rfl rfl (fun hc => ?_) (fun hc => ?_) <;> (try simp only [hcL] at hc) <;> try omega) | simp (disch := omega) only [go_sem, simprocAttr, hp, Ziq, Zkq] | apply And.intro | omega | decide +kernel
   all_goals try
    refine Zaj ?_;rw [nOk, Zc7 hp (by rw [bdIn, Bool.not_eq_true', decide_eq_false_iff_not]; omega)];simp
   ·refine ⟨k + 1, ?_, eL [] _ _ (by refine ⟨?_, ?_⟩ <;> (repeat' first | exact fmn | refine fmc ⟨(by first | rfl | (simp (disch := omega) only [go_sem, simprocAttr, inL]; first | done | omega | (congr 1; done))), ?_⟩); done), ?_⟩
    ·exact ⟨by omega, ZbL hinv hp (by rw [bdIn, Bool.not_eq_false', decide_eq_true_eq]; omega)⟩
    ·omega
  ·refine kw1 kO kc0 kc0 ?_;refine Zaj ?_;rw [nOk, ZdI (fun j y hj => hinv j y (by omega))];simp; omega
theorem Zh5 (g : Net) : Zaa Tryz.prog 133 [nD g] (.bool (nOk g)) := by
 obtain ⟨n, l⟩ := g;refine kE Tryz.func133 ?_;intro hat B X w0;have hl := Zb8 0 1 hat rfl rfl;rw [List.length_map] at hl;refine kw kO kc0 kc0 ?_
 repeat' first | exact True.intro | refine Bn.mk ?_ ?_ | intro hc
 all_goals try (refine Zaj ?_; simp [nOk]; omega)
 refine Zai (fun (k : Nat) => k ≤ l.length ∧ ∀ (j : Nat) y, j < k → l[j]? = some y → (!bdIn n y) = false) (fun k => [(1, .ptr 1 0 0 0), (3, .int k)]) (fun k => [(1, .cells [.int n, .d (Zea l)])]) (fun k => l.length - k) 0 ?_ ?_ ?_
 ·exact ⟨Nat.zero_le _, fun j y h => by omega⟩
 ·exact kN kc0 []
 ·rintro k ⟨hk, hinv⟩;rcases Nat.lt_or_ge k l.length with hlt | hge
  ·obtain ⟨p, hp⟩ := Zad hlt
   repeat' first | refine ZaK rfl ?_ | refine ZaF ?_ | refine wR ?_ | (refine ZaM rfl rfl (fun hc => ?_) (fun hc => ?_) <;> try simp only [hcL] at hc) | (refine ZaL _ rfl rfl (fun hc => ?_) (fun hc => ?_) <;> (try simp only [hcL] at hc) <;> try omega) | simp (disch := omega) only [go_sem, simprocAttr, hp] | apply And.intro | omega | decide +kernel
   all_goals try
    refine Zaj ?_;rw [nOk, Zc7 hp (by rw [bdIn, Bool.not_eq_true', decide_eq_false_iff_not]; omega)];simp
   ·refine ⟨k + 1, ?_, eL [] _ _ (by refine ⟨?_, ?_⟩ <;> (repeat' first | exact fmn | refine fmc ⟨(by first | rfl | (simp (disch := omega) only [go_sem, simprocAttr, inL]; first | done | omega | (congr 1; done))), ?_⟩); done), ?_⟩
    ·exact ⟨by omega, ZbL hinv hp (by rw [bdIn, Bool.not_eq_false', decide_eq_true_eq]; omega)⟩
    ·omega
  ·refine kw1 kO kc0 kc0 ?_;refine Zaj ?_;rw [nOk, ZdI (fun j y hj => hinv j y (by omega))];simp; omega
def ZjL (x : Int) : Bool := decide (-34359738368 ≤ x ∧ x ≤ 34359738368)
def Zg3 (g : Net) (r : List Int) : Bool := nOk g && decide ((r.length : Int) = g.1) && !r.any (fun x => !ZjL x)
def at0 (r : List Int) (v : Int) : Int := (r[v.toNat]?).getD 0
theorem Zey {r : List Int} {v : Int} (h1 : 0 ≤ v) (h2 : v < r.length) : r[v.toNat]? = some (at0 r v) := by
 obtain ⟨x, hx⟩ := Zad (show v.toNat < r.length by omega);rw [at0, hx]; rfl
theorem Znn (g : Net) (r : List Int) : Zaa Tryz.prog 85 [nD g, Zac r] (.bool (Zg3 g r)) := by
 rcases hg : nOk g with _ | _
 ·have hv : Zaa Tryz.prog 133 [nD g] (.bool false) := hg ▸ Zh5 g;refine kE Tryz.func85 ?_;intro hat B X w0;refine kw1 kO kc0 (kc1 hv) ?_
  all_goals (refine Zaj ?_; simp [Zg3, hg])
 ·have hv : Zaa Tryz.prog 133 [nD g] (.bool true) := hg ▸ Zh5 g;obtain ⟨h1, h2, h3, h4⟩ := Zgx hg;refine kE Tryz.func85 ?_;intro hat B X w0;have hl := Zbi 1 hat rfl;rw [List.length_map] at hl;refine kw kO kc0 (kc1 hv) ?_
  repeat' first | exact True.intro | refine Bn.mk ?_ ?_ | intro hc
  all_goals try (refine Zaj ?_; simp [Zg3, hg]; omega)
  refine Zai (fun (k : Nat) => k ≤ r.length ∧ ∀ (j : Nat) y, j < k → r[j]? = some y → (!ZjL y) = false) (fun k => [(1, .d (Zac r)), (5, .int k)]) (fun k => []) (fun k => r.length - k) 0 ?_ ?_ ?_
  ·exact ⟨Nat.zero_le _, fun j y h => by omega⟩
  ·exact kN kc0 []
  ·rintro k ⟨hk, hinv⟩;rcases Nat.lt_or_ge k r.length with hlt | hge
   ·obtain ⟨p, hp⟩ := Zad hlt;refine kw kO (kc1 hp) kc0 ?_
    repeat' first | exact True.intro | refine Bn.mk ?_ ?_ | intro hc
    all_goals try
     refine Zaj ?_;rw [Zg3, Zc7 hp (by rw [ZjL, Bool.not_eq_true', decide_eq_false_iff_not]; omega)];simp
    ·refine ⟨k + 1, ?_, eL [] _ _ (by refine ⟨?_, ?_⟩ <;> (repeat' first | exact fmn | refine fmc ⟨(by first | rfl | (simp (disch := omega) only [go_sem, simprocAttr, inL]; first | done | omega | (congr 1; done))), ?_⟩); done), ?_⟩
     ·exact ⟨by omega, ZbL hinv hp (by rw [ZjL, Bool.not_eq_false', decide_eq_true_eq]; omega)⟩
     ·omega
   ·refine kw1 kO kc0 kc0 ?_;refine Zaj ?_;rw [Zg3, ZdI (fun j y hj => hinv j y (by omega))];simp [hg]; omega
def gap (r : List Int) (b : Bd) : Int := at0 r b.2.1 - at0 r b.1
def ZaO (f : Nat → Int) : Nat → Int
 | 0 => 0
 | k + 1 => ZaO f k + f k
theorem ZcO (f : Nat → Int) (k : Nat) : ZaO f (k + 1) = ZaO f k + f k := rfl
theorem ZpY {f : Nat → Int} {c : Int} {m : Nat} (h : ∀ k, k < m → -c ≤ f k ∧ f k ≤ c) : ∀ k, k ≤ m → -(c * k) ≤ ZaO f k ∧ ZaO f k ≤ c * k := by
 intro k
 induction k with
 | zero => intro _; simp [ZaO]
 | succ k ih =>
  intro hk;have h1 := ih (by omega);have h2 := h k (by omega);have : c * ((k + 1 : Nat) : Int) = c * k + c := by rw [Int.natCast_succ, Int.mul_add, Int.mul_one]
  rw [ZaO, this]; omega
def Zga (r : List Int) (l : List Bd) (k : Nat) : Int := match l[k]? with
 | some b => b.2.2.2 * gap r b
 | none => 0
def Zml (g : Net) (r : List Int) : Int := if Zg3 g r then ZaO (Zga r g.2) g.2.length else 0
def Zeb (l : List Bd) (f : List Int) (v : Int) (j : Nat) : Int := match l[j]?, f[j]? with
 | some b, some x => (if b.2.1 = v then x - b.2.2.2 else 0) - (if b.1 = v then x - b.2.2.2 else 0)
 | _, _ => 0
end Go.Proofs.YtjjbhjnpeenbkaaGreatDoor.Sx
namespace Go.Proofs.YtjjbhjnpeenbkaaGreatDoor.Sx
open Go Go.PS Go.Proofs
set_option maxRecDepth 100000
attribute [local irreducible] Zab wpG Zaa Zaf
abbrev pD (n : Nat) (l : List Bd) (f : List Int) : D := .pt [.int n, Zea l, Zac f]
def ZbE (n : Nat) : List Int := (List.range n).map fun u : Nat => (u : Int)
def Za9 (g : Nat → Int) (n k : Nat) : List Int := (List.range n).map fun u => if u < k then g u else 0
theorem Zdj (g : Nat → Int) (n k : Nat) : (Za9 g n k).length = n := by simp [Za9]
theorem ZeN {g : Nat → Int} {n k u : Nat} (h : u < n) : (Za9 g n k)[u]? = some (if u < k then g u else 0) := by simp [Za9, h]
theorem Zix (g : Nat → Int) (n : Nat) : (Za9 g n 0).map D.int = List.replicate n (D.int 0) := by
 rw [List.eq_replicate_iff];refine ⟨by simp [Za9], fun b hb => ?_⟩;simp only [Za9, List.map_map, List.mem_map] at hb;obtain ⟨u, _, rfl⟩ := hb;simp
theorem Zi3 {g : Nat → Int} {n k : Nat} (h : k < n) : (Za9 g n k).set k (g k) = Za9 g n (k + 1) := by
 refine List.ext_getElem? fun u => ?_
 by_cases hu : u < n
 ·rw [ZeN hu, List.getElem?_set, ZeN hu, Zdj];by_cases c : k = u
  ·subst c; rw [if_pos rfl, if_pos h, if_pos (by omega)]
  ·rw [if_neg c];by_cases c2 : u < k
   ·rw [if_pos c2, if_pos (by omega)]
   ·rw [if_neg c2, if_neg (by omega)]
 ·rw [List.getElem?_eq_none (by rw [List.length_set, Zdj]; omega), List.getElem?_eq_none (by rw [Zdj]; omega)]
theorem ZiM (g : Nat → Int) (n : Nat) : Za9 g n n = (List.range n).map g := by
 rw [Za9];refine List.map_congr_left fun u hu => ?_
 rw [if_pos (List.mem_range.1 hu)]
theorem Zl3 (n : Nat) (l : List Bd) (f : List Int) (hn : n ≤ 2048) : Zaf Tryz.prog 161 [.d (pD n l f)] [(2000, .dead)] (.ref 2000 1 0 n n) [(2000, .row 1 ((ZbE n).map D.int))] := by
 refine kM Tryz.func161 ?_;intro B X w0;refine kw1 (kow (Nat.beq 10) (b := true)) kc0 kc0 ?_;refine Zai (fun (k : Nat) => k ≤ n) (fun k => [(3, .ref 10 1 0 n n), (12, .int n), (13, .int k)]) (fun k => [(10, .row 1 ((Za9 (fun u => (u : Int)) n k).map D.int))]) (fun k => n - k) 0 ?_ ?_ ?_
 ·exact Nat.zero_le _
 ·exact kN (kc1 @Zix) []
 ·intro k hk;have hlen := Zdj (fun u => (u : Int)) n k;rcases Nat.lt_or_ge k n with hlt | hge
  ·have hg : (Za9 (fun u => (u : Int)) n k)[k]? = _ := ZeN hlt;have hst := Zi3 (g := fun u => (u : Int)) hlt;refine kw1 kO (kc2 hg hlen) kc0 ?_;refine ⟨k + 1, ?_, kN (kc2 @hst.symm @List.map_set.{0,0}) [], ?_⟩
   ·omega
   ·omega
  ·refine kw1 kP kc0 kc0 ?_;have : k = n := by omega
   subst this;refine kR kc0 [(2000, 10)] [(2, .ref 2000 1 0 _ _)] [(2000, .row 1 _)] ?_;refine ZaF ?_;exact ⟨rfl, List.forall_mem_cons.2 ⟨Zn2 (by rw [ZiM]; rfl), List.forall_mem_nil _⟩⟩
def Zdz (l : List Bd) (v : Int) (j : Nat) : Int := match l[j]? with
 | some b => (if b.2.1 = v then b.2.2.2 else 0) - (if b.1 = v then b.2.2.2 else 0)
 | none => 0
def Zbw (l : List Bd) (n k : Nat) : List Int := (List.range n).map fun v : Nat => ZaO (Zdz l v) k
theorem Zht (l : List Bd) (n k : Nat) : (Zbw l n k).length = n := by simp [Zbw]
theorem Ztq (l : List Bd) (n : Nat) : (Zbw l n 0).map D.int = List.replicate n (D.int 0) := by
 rw [List.eq_replicate_iff];refine ⟨by simp [Zbw], fun b hb => ?_⟩;simp only [Zbw, List.map_map, List.mem_map] at hb;obtain ⟨u, _, rfl⟩ := hb;rfl
theorem Zim {l : List Bd} {n k u : Nat} (hu : u < n) : (Zbw l n k)[u]? = some (ZaO (Zdz l u) k) := by simp [Zbw, hu]
theorem Zsf {l : List Bd} {n k i j : Nat} {b : Bd} (hb : l[k]? = some b) (hi : b.1 = i) (hj : b.2.1 = j) (hij : i ≠ j) (hin : i < n) (hjn : j < n) :
  Zbw l n (k + 1) = ((Zbw l n k).set j (ZaO (Zdz l j) k + b.2.2.2)).set i (ZaO (Zdz l i) k - b.2.2.2) := by
 refine List.ext_getElem? fun u => ?_
 by_cases hu : u < n
 ·rw [Zim hu, ZcO, List.getElem?_set, List.getElem?_set, List.length_set, Zht, Zim hu];have e : Zdz l u k = (if b.2.1 = (u : Int) then b.2.2.2 else 0) - (if b.1 = (u : Int) then b.2.2.2 else 0) := by simp [Zdz, hb]
  rw [e, hi, hj];by_cases c1 : i = u
  ·subst c1;rw [if_neg (by omega), if_pos rfl, if_pos rfl, if_pos hu]; congr 1; omega
  ·by_cases c2 : j = u
   ·subst c2;rw [if_pos rfl, if_neg (by omega), if_neg c1, if_pos rfl, if_pos hu]; congr 1; omega
   ·rw [if_neg (by omega), if_neg (by omega), if_neg c1, if_neg c2]; congr 1; omega
 ·rw [List.getElem?_eq_none (by rw [Zht]; omega), List.getElem?_eq_none (by rw [List.length_set, List.length_set, Zht]; omega)]
theorem ZkA {l : List Bd} {v : Int} {m : Nat} (hm : m ≤ l.length) (h4 : ∀ (k : Nat) b, l[k]? = some b → 0 ≤ b.2.2.2 ∧ b.2.2.2 ≤ 8000) :
  -(8000 * (m : Int)) ≤ ZaO (Zdz l v) m ∧ ZaO (Zdz l v) m ≤ 8000 * (m : Int) := by
 refine ZpY (m := m) (fun k hk => ?_) m (Nat.le_refl _);obtain ⟨b, hb⟩ := Zad (show k < l.length by omega);have h5 := h4 k b hb;simp only [Zdz, hb];split <;> split <;> omega
theorem Zsz (n : Nat) (l : List Bd) (f : List Int) (hg : nOk (n, l) = true) : Zaf Tryz.prog 212 [.d (pD n l f)] [(2000, .dead)] (.ref 2000 1 0 n n) [(2000, .row 1 ((Zbw l n l.length).map D.int))] := by
 obtain ⟨h1, h2, h3, h4⟩ := Zgx hg;dsimp only at h1 h2 h3 h4;refine kM Tryz.func212 ?_;intro B X w0;refine kw1 (kow (Nat.beq 11) (b := true)) kc0 kc0 ?_;refine Zai (fun (k : Nat) => k ≤ l.length) (fun k => [(3, .ref 11 1 0 n n), (16, .d (Zea l)), (17, .int l.length), (18, .int k)]) (fun k => [(11, .row 1 ((Zbw l n k).map D.int))]) (fun k => l.length - k) 0 ?_ ?_ ?_
 ·exact Nat.zero_le _
 ·exact kN (kc1 @Ztq) []
 ·intro k hk;have hbl := Zht l n k;rcases Nat.lt_or_ge k l.length with hlt | hge
  ·obtain ⟨b, hb⟩ := Zad hlt;have hbi := h4 k b hb;obtain ⟨i, hi⟩ : ∃ i : Nat, b.1 = i := ⟨b.1.toNat, by omega⟩;obtain ⟨j, hj⟩ : ∃ j : Nat, b.2.1 = j := ⟨b.2.1.toNat, by omega⟩;have gi : (Zbw l n k)[i]? = _ := Zim (by omega);have gj : (Zbw l n k)[j]? = _ := Zim (by omega);have bi := ZkA (v := i) (show k ≤ l.length by omega) (fun k b hb => by have := h4 k b hb; omega);have bj := ZkA (v := j) (show k ≤ l.length by omega) (fun k b hb => by have := h4 k b hb; omega);have hst := Zsf (n := n) hb hi hj (by omega) (by omega) (by omega);have hij : j ≠ i := by omega
   have gs : ((List.map D.int (Zbw l n k)).set j (D.sc (.int .i64 (ZaO (Zdz l j) k + b.2.2.2))))[i]? = some (D.int (ZaO (Zdz l i) k)) := by
    rw [List.getElem?_set_ne hij, List.getElem?_map, gi]; rfl
   refine kw1 kO (kc8 hb hi hj gi gj gs hbl @List.length_set.{0}) kc0 ?_;refine ⟨k + 1, ?_, kN (kc2 hst @List.map_set.{0,0}) [], ?_⟩
   ·omega
   ·omega
  ·refine kw1 kP kc0 kc0 ?_;have : k = l.length := by omega
   subst this;refine kR kc0 [(2000, 11)] [(2, .ref 2000 1 0 _ _)] [(2000, .row 1 _)] ?_;refine ZaF ?_;exact ⟨rfl, List.forall_mem_cons.2 ⟨rfl, List.forall_mem_nil _⟩⟩
end Go.Proofs.YtjjbhjnpeenbkaaGreatDoor.Sx
namespace Go.Proofs.YtjjbhjnpeenbkaaGreatDoor.Sx
open Go Go.PS Go.Proofs
set_option maxRecDepth 100000
attribute [local irreducible] Zab wpG Zaa
def upA (b : Bd) (s : List Int × Bool) : List Int × Bool :=
 if at0 s.1 b.2.1 < at0 s.1 b.1 + b.2.2.1 then (s.1.set b.2.1.toNat (at0 s.1 b.1 + b.2.2.1), true) else s
def upB (b : Bd) (t : Bool) (s : List Int × Bool) : List Int × Bool :=
 if t && decide (at0 s.1 b.1 < at0 s.1 b.2.1 - b.2.2.1) then (s.1.set b.1.toNat (at0 s.1 b.2.1 - b.2.2.1), true) else s
def ZhT (f : List Int) (k : Nat) : Bool := match f[k]? with
 | some x => decide (0 < x)
 | none => false
def ZhZ (l : List Bd) (f : List Int) (k : Nat) (s : List Int × Bool) : List Int × Bool := match l[k]? with
 | some b => upB b (ZhT f k) (upA b s)
 | none => s
def Zb1 (l : List Bd) (f r : List Int) : Nat → List Int × Bool
 | 0 => (r, false)
 | k + 1 => ZhZ l f k (Zb1 l f r k)
def ZbP (l : List Bd) (f : List Int) (n : Nat) : Nat → List Int
 | 0 => List.replicate n 0
 | k + 1 => (Zb1 l f (ZbP l f n k) l.length).1
def ZeT (l : List Bd) (f : List Int) (n : Nat) : Nat → Option Nat
 | 0 => none
 | k + 1 => match ZeT l f n k with | some i => some i | none => if (Zb1 l f (ZbP l f n k) l.length).2 then none else some k
def ZgS (g : Net) (f : List Int) : List Int × Bool := match ZeT g.2 f g.1.toNat (g.1.toNat + 2) with
 | some k => (ZbP g.2 f g.1.toNat (k + 1), true)
 | none => ([], false)
theorem Zzl (b : Bd) (s : List Int × Bool) : (upA b s).1.length = s.1.length := by
 unfold upA; split <;> simp
theorem ZuE (b : Bd) (t : Bool) (s : List Int × Bool) : (upB b t s).1.length = s.1.length := by
 unfold upB; split <;> simp
theorem Zug (l : List Bd) (f : List Int) (k : Nat) (s : List Int × Bool) : (ZhZ l f k s).1.length = s.1.length := by
 unfold ZhZ; split
 ·rw [ZuE, Zzl]
 ·rfl
theorem Zle (l : List Bd) (f r : List Int) : ∀ k, (Zb1 l f r k).1.length = r.length
 | 0 => rfl
 | k + 1 => by rw [Zb1, Zug, Zle l f r k]
theorem Znx (l : List Bd) (f : List Int) (n : Nat) : ∀ k, (ZbP l f n k).length = n
 | 0 => by simp [ZbP]
 | k + 1 => by rw [ZbP, Zle, Znx l f n k]
def ZbR (r : List Int) (m : Int) : Prop := ∀ v : Int, -m ≤ at0 r v ∧ at0 r v ≤ m
theorem ZgM (r : List Int) (i : Nat) (x v : Int) (hv : 0 ≤ v) : at0 (r.set i x) v = if v = i ∧ i < r.length then x else at0 r v := by
 simp only [at0, List.getElem?_set];by_cases h : i = v.toNat
 ·subst h;by_cases h2 : v.toNat < r.length
  ·rw [if_pos rfl, if_pos h2, if_pos (by omega)]; rfl
  ·rw [if_pos rfl, if_neg h2, if_neg (by omega), List.getElem?_eq_none (by omega)]
 ·rw [if_neg h, if_neg (by omega)]
theorem ZvO (r : List Int) (v : Int) (hv : v < 0) : at0 r v = at0 r 0 := by
 rw [at0, at0, show v.toNat = 0 by omega]; rfl
theorem ZkF {r : List Int} {m : Int} {i : Nat} {x : Int} (h : ZbR r m) (h1 : -m ≤ x) (h2 : x ≤ m) : ZbR (r.set i x) m := by
 have key : ∀ v : Int, 0 ≤ v → -m ≤ at0 (r.set i x) v ∧ at0 (r.set i x) v ≤ m := by
  intro v hv;rw [ZgM _ _ _ _ hv];split
  ·exact ⟨h1, h2⟩
  ·exact h v
 intro v;rcases (show v < 0 ∨ 0 ≤ v by omega) with hv | hv
 ·rw [ZvO _ _ hv]; exact key 0 (Int.le_refl _)
 ·exact key v hv
theorem ZeS {r : List Int} {m m' : Int} (h : ZbR r m) (hm : m ≤ m') : ZbR r m' := fun v => by have := h v; omega
def Zl9 (l : List Bd) : Prop := ∀ (k : Nat) b, l[k]? = some b → -16777216 ≤ b.2.2.1 ∧ b.2.2.1 ≤ 16777216
theorem Zxw {b : Bd} {s : List Int × Bool} {m : Int} (h : ZbR s.1 m) (hb : -16777216 ≤ b.2.2.1 ∧ b.2.2.1 ≤ 16777216) : ZbR (upA b s).1 (m + 16777216) := by
 unfold upA;split
 ·have h1 := h b.1;exact ZkF (ZeS h (by omega)) (by omega) (by omega)
 ·exact ZeS h (by omega)
theorem Zwm {b : Bd} {t : Bool} {s : List Int × Bool} {m : Int} (h : ZbR s.1 m) (hb : -16777216 ≤ b.2.2.1 ∧ b.2.2.1 ≤ 16777216) : ZbR (upB b t s).1 (m + 16777216) := by
 unfold upB;split
 ·have h1 := h b.2.1;exact ZkF (ZeS h (by omega)) (by omega) (by omega)
 ·exact ZeS h (by omega)
theorem Zlo {l : List Bd} {f r : List Int} {m : Int} (hl : Zl9 l) (h : ZbR r m) : ∀ k : Nat, ZbR (Zb1 l f r k).1 (m + 33554432 * k)
 | 0 => ZeS h (by omega)
 | k + 1 => by
  have ih := Zlo (f := f) hl h k;rw [Zb1, ZhZ];cases hb : l[k]? with
  | none => exact ZeS ih (by omega)
  | some b =>
   have := hl k b hb;exact ZeS (Zwm (Zxw ih this) this) (by omega)
theorem Zn5 {l : List Bd} {f : List Int} {n : Nat} (hl : Zl9 l) (hm : l.length ≤ 4096) : ∀ k : Nat, ZbR (ZbP l f n k) (137438953472 * k)
 | 0 => by
  intro v;have : at0 (ZbP l f n 0) v = 0 := by
   simp only [at0, ZbP, List.getElem?_replicate]; split <;> rfl
  rw [this]; omega
 | k + 1 => by
  rw [ZbP];exact ZeS (Zlo hl (Zn5 hl hm k) l.length) (by omega)
theorem Zvr {l : List Bd} {f : List Int} {n m k : Nat} (hk : k < m) (h1 : ZeT l f n k = none) (h2 : (Zb1 l f (ZbP l f n k) l.length).2 = false) : ZeT l f n m = some k := by
 induction m with
 | zero => omega
 | succ m ih =>
  rcases Nat.lt_succ_iff_lt_or_eq.1 hk with h | rfl
  ·simp [ZeT, ih h]
  ·simp [ZeT, h1, h2]
theorem ZrX {l : List Bd} {f : List Int} {n k : Nat} (h1 : ZeT l f n k = none) (h2 : (Zb1 l f (ZbP l f n k) l.length).2 = true) : ZeT l f n (k + 1) = none := by simp [ZeT, h1, h2]
theorem ZaW {r : List Int} {i : Nat} (h : i < r.length) : r[i]? = some (at0 r i) := by
 obtain ⟨x, hx⟩ := Zad h;rw [at0, Int.toNat_natCast, hx]; rfl
theorem ZyD {b : Bd} {t : Bool} {s : List Int × Bool} {i j : Nat} (hi : b.1 = i) (hj : b.2.1 = j) (hij : i ≠ j) (hjl : j < s.1.length) (h : at0 s.1 j < at0 s.1 i + b.2.2.1) :
  upB b t (upA b s) = (s.1.set j (at0 s.1 i + b.2.2.1), true) := by
 have e : upA b s = (s.1.set j (at0 s.1 i + b.2.2.1), true) := by rw [upA, hi, hj, if_pos h, Int.toNat_natCast]
 have e1 := ZgM s.1 j (at0 s.1 i + b.2.2.1) i (by omega);rw [if_neg (by omega)] at e1;have e2 := ZgM s.1 j (at0 s.1 i + b.2.2.1) j (by omega);rw [if_pos ⟨rfl, hjl⟩] at e2;rw [e, upB, hi, hj];dsimp only;rw [e1, e2, if_neg];simp only [Bool.and_eq_true, decide_eq_true_eq]; omega
theorem ZtT {b : Bd} {t : Bool} {s : List Int × Bool} {i j : Nat} (hi : b.1 = i) (hj : b.2.1 = j) (h : ¬ at0 s.1 j < at0 s.1 i + b.2.2.1) (ht : t = true) (h2 : at0 s.1 i < at0 s.1 j - b.2.2.1) :
  upB b t (upA b s) = (s.1.set i (at0 s.1 j - b.2.2.1), true) := by
 have e : upA b s = s := by rw [upA, hi, hj, if_neg h]
 rw [e, upB, hi, hj, if_pos (by simp [ht, h2]), Int.toNat_natCast]
theorem Zq7 {b : Bd} {t : Bool} {s : List Int × Bool} {i j : Nat} (hi : b.1 = i) (hj : b.2.1 = j) (h : ¬ at0 s.1 j < at0 s.1 i + b.2.2.1) (h2 : t = false ∨ ¬ at0 s.1 i < at0 s.1 j - b.2.2.1) :
  upB b t (upA b s) = s := by
 have e : upA b s = s := by rw [upA, hi, hj, if_neg h]
 rw [e, upB, hi, hj, if_neg];rcases h2 with h2 | h2 <;> simp [h2]
theorem ZnK (g : Net) (f : List Int) (hg : nOk g = true) (hfl : f.length ≤ 1000000) : Zaa Tryz.prog 134 [nD g, Zac f] (.tup [Zac (ZgS g f).1, .bool (ZgS g f).2]) := by
 obtain ⟨h1, h2, h3, h4⟩ := Zgx hg;obtain ⟨m, l⟩ := g;dsimp only at h1 h2 h3 h4;obtain ⟨n, rfl⟩ : ∃ n : Nat, m = n := ⟨m.toNat, by omega⟩;have hlo : Zl9 l := fun k b hb => by have := h4 k b hb; omega
 refine kE Tryz.func134 ?_;intro hat B X w0;refine kw1 (kow (Nat.beq 13) (b := true)) kc0 kc0 ?_;refine Zai (fun (k : Nat) => k ≤ n + 2 ∧ ZeT l f n k = none) (fun k => [(1, .d (Zac f)), (2, .ptr 2 0 0 0), (6, .ref 13 1 0 n n), (7, .int k)]) (fun k => [(2, .cells [.int n, .d (Zea l)]), (13, .row 1 ((ZbP l f n k).map D.int))]) (fun k => n + 2 - k) 0 ?_ ?_ ?_
 ·exact ⟨by omega, rfl⟩
 ·exact kN (kc2 @ZbP.eq_1 @List.map_replicate.{0,0}) []
 ·rintro k ⟨hk, hstill⟩;have hwi := Zn5 (f := f) (n := n) hlo h3 k;rcases Nat.lt_or_ge k (n + 2) with hlt | hge
  ·refine kw1 kO kc0 kc0 ?_;refine Zai (fun (i : Nat) => i ≤ l.length) (fun i => [(1, .d (Zac f)), (2, .ptr 2 0 0 0), (6, .ref 13 1 0 n n), (7, .int k), (8, .bool (Zb1 l f (ZbP l f n k) i).2), (9, .int i)]) (fun i => [(2, .cells [.int n, .d (Zea l)]), (13, .row 1 ((Zb1 l f (ZbP l f n k) i).1.map D.int))]) (fun i => l.length - i) 0 ?_ ?_ ?_
   ·exact Nat.zero_le _
   ·exact kN (kc1 @Zb1.eq_1) []
   ·intro i hi;have hlen : (Zb1 l f (ZbP l f n k) i).1.length = n := by rw [Zle, Znx]
    have hw := ZeS (m' := 562949953421312) (Zlo (f := f) hlo hwi i) (by omega);rcases Nat.lt_or_ge i l.length with hil | hig
    ·obtain ⟨b, hb⟩ := Zad hil;have hbi := h4 i b hb;have hru : Zb1 l f (ZbP l f n k) (i + 1) = upB b (ZhT f i) (upA b (Zb1 l f (ZbP l f n k) i)) := by simp only [Zb1, ZhZ, hb]
     generalize Zb1 l f (ZbP l f n k) i = s at hlen hw hru ⊢;obtain ⟨p, hp⟩ : ∃ p : Nat, b.1 = p := ⟨b.1.toNat, by omega⟩;obtain ⟨q, hq⟩ : ∃ q : Nat, b.2.1 = q := ⟨b.2.1.toNat, by omega⟩;have gp := ZaW (r := s.1) (i := p) (by omega);have gq := ZaW (r := s.1) (i := q) (by omega);have wp := hw p;have wq := hw q;have hpq : q ≠ p := by omega
     have t1 : ∀ x, ((List.map D.int s.1).set q x)[p]? = some (D.int (at0 s.1 p)) := fun x => by
      rw [List.getElem?_set_ne hpq, List.getElem?_map, gp]; rfl
     have t2 : ∀ x, ((List.map D.int s.1).set q x)[q]? = some x := fun x => List.getElem?_set_self (by rw [List.length_map]; omega)
     rcases Decidable.em (at0 s.1 q < at0 s.1 p + b.2.2.1) with c1 | c1
     ·rw [ZyD hp hq (by omega) (by omega) c1] at hru;rcases Nat.lt_or_ge i f.length with hif | hif
      ·obtain ⟨x, hx⟩ := Zad hif;refine kw kO (kc8 hb hx hp hq gp gq t1 (kc3 t2 hlen @List.length_set.{0})) kc0 ?_
       repeat' first | exact True.intro | refine Bn.mk ?_ ?_ | intro hc
       all_goals
        refine ⟨i + 1, ?_, kN (kc2 hru @List.map_set.{0,0}) [], ?_⟩
        ·omega
        ·omega
      ·refine kw1 kO (kc8 hb hp hq gp gq t1 t2 (kc2 hlen @List.length_set.{0})) kc0 ?_
       all_goals
        refine ⟨i + 1, ?_, kN (kc2 hru @List.map_set.{0,0}) [], ?_⟩
        ·omega
        ·omega
     ·rcases Nat.lt_or_ge i f.length with hif | hif
      ·obtain ⟨x, hx⟩ := Zad hif;have ht : ZhT f i = decide (0 < x) := by rw [ZhT, hx]
       rw [ht] at hru;rcases Decidable.em (0 < x ∧ at0 s.1 p < at0 s.1 q - b.2.2.1) with c2 | c2
       ·rw [ZtT hp hq c1 (by simp [c2.1]) c2.2] at hru;refine kw1 kO (kc8 hb hx hp hq gp gq t1 (kc3 t2 hlen @List.length_set.{0})) kc0 ?_
        all_goals
         refine ⟨i + 1, ?_, kN (kc2 hru @List.map_set.{0,0}) [], ?_⟩
         ·omega
         ·omega
       ·rw [Zq7 hp hq c1 (by rw [decide_eq_false_iff_not]; omega)] at hru;refine kw kO (kc8 hb hx hp hq gp gq t1 (kc3 t2 hlen @List.length_set.{0})) kc0 ?_
        repeat' first | exact True.intro | refine Bn.mk ?_ ?_ | intro hc
        all_goals
         refine ⟨i + 1, ?_, kN (kc2 hru @List.map_set.{0,0}) [], ?_⟩
         ·omega
         ·omega
      ·have ht : ZhT f i = false := by rw [ZhT, List.getElem?_eq_none hif]
       rw [ht, Zq7 hp hq c1 (.inl rfl)] at hru;refine kw1 kO (kc8 hb hp hq gp gq t1 t2 (kc2 hlen @List.length_set.{0})) kc0 ?_
       all_goals
        refine ⟨i + 1, ?_, kN (kc2 hru @List.map_set.{0,0}) [], ?_⟩
        ·omega
        ·omega
    ·have : i = l.length := by omega
     subst this;rcases hch : (Zb1 l f (ZbP l f n k) l.length).2 with _ | _
     ·refine kw1 kO kc0 kc0 ?_;have e : ZgS (n, l) f = (ZbP l f n (k + 1), true) := by
       rw [ZgS, Int.toNat_natCast, Zvr hlt hstill hch]
      rw [e, ZbP];exact ⟨_, rfl, Zdb (o := 13) rfl rfl (by simp [hlen]) (List.take_of_length_le (by simp [hlen])), Zaj rfl, trivial⟩
     ·refine kw1 kO kc0 kc0 ?_;refine ⟨k + 1, ?_, kN (kc1 @ZbP.eq_1) [], ?_⟩
      ·exact ⟨by omega, ZrX hstill hch⟩
      ·omega
  ·refine kw1 kO kc0 kc0 ?_;have : k = n + 2 := by omega
   subst this;have e : ZgS (n, l) f = ([], false) := by rw [ZgS, Int.toNat_natCast, hstill]
   rw [e];exact ⟨_, rfl, ZcI rfl, Zaj rfl, trivial⟩
end Go.Proofs.YtjjbhjnpeenbkaaGreatDoor.Sx
namespace Go.Proofs.YtjjbhjnpeenbkaaGreatDoor.Sx
open Go Go.PS Go.Proofs
set_option maxRecDepth 100000
attribute [local irreducible] Zab wpG Zaa Zaf

abbrev Stp := Int × Int × Int × Bool
abbrev stD (s : Stp) : D := .ag [.int s.1, .int s.2.1, .int s.2.2.1, .bool s.2.2.2]
def ZgI (l : List Bd) (f : List Int) (v k : Nat) : List Stp := match l[k]? with
 | some b => (if b.1 = v then [(b.2.1, b.2.2.1, (k : Int), false)] else []) ++ (if 0 < at0 f k ∧ b.2.1 = v then [(b.1, -b.2.2.1, (k : Int), true)] else [])
 | none => []
def Zd3 (l : List Bd) (f : List Int) (v : Nat) : Nat → List Stp := Zbp (ZgI l f v)
def ZcX (l : List Bd) (f : List Int) (k v : Nat) : List D := (Zd3 l f v k).map stD
abbrev Zg8 (n : Nat) (l : List Bd) (f : List Int) : List D := (List.range n).map fun v => .sl (ZcX l f l.length v)
theorem Zv2 {l : List Bd} {f : List Int} {k : Nat} {b : Bd} {p q : Nat} (hb : l[k]? = some b) (hp : b.1 = p) (hq : b.2.1 = q) (hpq : p ≠ q) (v : Nat) :
  ZcX l f (k + 1) v = if v = p then ZcX l f k v ++ [stD (q, b.2.2.1, k, false)] else if v = q ∧ 0 < at0 f k then ZcX l f k v ++ [stD (p, -b.2.2.1, k, true)] else ZcX l f k v := by
 simp only [ZcX, Zd3, Zbp, ZgI, hb, hp, hq, List.map_append];by_cases h1 : v = p
 ·subst h1; rw [if_pos rfl, if_neg (by omega), if_pos rfl]; simp
 ·rw [if_neg (by omega), if_neg h1];by_cases h2 : v = q ∧ 0 < at0 f k
  ·rw [if_pos ⟨h2.2, by omega⟩, if_pos h2]; simp
  ·rw [if_neg (by omega), if_neg h2]; simp
theorem Zju (l : List Bd) (f : List Int) (v : Nat) : ∀ k, (ZcX l f k v).length ≤ 2 * k
 | 0 => by simp [ZcX, Zd3, Zbp]
 | k + 1 => by
  have := Zju l f v k;simp only [ZcX, Zd3, Zbp, List.map_append, List.length_append, List.length_map] at this ⊢;have : (ZgI l f v k).length ≤ 2 := by
   rw [ZgI]; split
   ·split <;> split <;> simp
   ·simp
  omega
theorem ZtA (n : Nat) (l : List Bd) (f : List Int) (hn : n ≤ 2048) (hl : l.length ≤ 4096) (hfl : f.length = l.length)
  (hb : ∀ (k : Nat) b, l[k]? = some b → 0 ≤ b.1 ∧ b.1 < n ∧ 0 ≤ b.2.1 ∧ b.2.1 < n ∧ b.1 ≠ b.2.1 ∧ -16777216 ≤ b.2.2.1 ∧ b.2.2.1 ≤ 16777216) :
  Zaa Tryz.prog 211 [pD n l f] (.sl (Zg8 n l f)) := by
 refine kE Tryz.func211 ?_;intro hat B X w0;refine kw1 (kow (fun s => (Nat.beq 11 s).or ((Nat.beq 37 s).or (Nat.beq 63 s))) (b := true)) kc0 kc0 ?_;refine Zav _ (ZhU 1 11 4 n rfl (fun i hi => by simp (disch := omega) only [go_sem, simprocAttr, ZiL, ZdH]) (by decide) (by decide)) ?_;refine Zef (fun (k : Nat) => k ≤ l.length) (fun k => [(0, .d (pD n l f)), (3, .ref 11 1 0 n n), (16, .d (Zea l)), (17, .int l.length), (18, .int k)]) (fun k => [⟨1, 11, 4, n, ZcX l f k⟩]) (fun k => []) (fun k => l.length - k) 0 ?_ ?_ ?_
 ·exact Nat.zero_le _
 ·refine kF kc0 [] [] ?_
  repeat' first | exact fmn | refine fmc ⟨?_, ?_⟩
  all_goals refine ⟨_, (by first | rfl | (simp (disch := omega) only [go_sem, simprocAttr, ZcX, Zd3, Zbp]; done) | (simp (disch := omega) only [go_sem, simprocAttr, ZcX, Zd3, Zbp]; rfl)), fun i hi => ?_⟩
  all_goals dsimp only at hi ⊢
  all_goals try (exfalso; omega)
  all_goals try (simp (disch := omega) only [go_sem, simprocAttr, ZcX, Zd3, Zbp, ZeR, Ze1]; done)
 ·intro k hk;rcases Nat.lt_or_ge k l.length with hlt | hge
  ·obtain ⟨b, hbk⟩ := Zad hlt;have hbi := hb k b hbk;obtain ⟨p, hp⟩ : ∃ p : Nat, b.1 = p := ⟨b.1.toNat, by omega⟩;obtain ⟨q, hq⟩ : ∃ q : Nat, b.2.1 = q := ⟨b.2.1.toNat, by omega⟩;have hpq : p ≠ q := by omega
   have hqp : q ≠ p := by omega
   have hpn : p < n := by omega
   have hqn : q < n := by omega
   have gf := ZaW (r := f) (i := k) (by omega);have hsu := Zv2 (f := f) hbk hp hq hpq;have e1 := Zju l f p k;have e2 := Zju l f q k;refine Zav _ (ZeQ _ _ [11] 11 p 900 1 4 n (by first | rfl | (simp (disch := omega) only [go_sem, simprocAttr]; done) | (simp (disch := omega) only [go_sem, simprocAttr]; rfl)) (by first | (simp (disch := omega) only [go_sem, simprocAttr]; done) | (simp (disch := omega) only [go_sem, simprocAttr]; rfl)) (by first | (simp (disch := omega) only [go_sem, simprocAttr]; done) | (simp (disch := omega) only [go_sem, simprocAttr]; rfl)) (fun i hi hne => by simp (disch := omega) only [go_sem, simprocAttr, hne]; (repeat' split) <;> exact .ref _ _ _ _ _ ⟨by simp (disch := omega) only [go_sem, simprocAttr, hne], by simp (disch := omega) only [go_sem, simprocAttr, hne]⟩) (by (repeat' first | refine ZeO ?_ | exact ZeY (ids := [11]) rfl rfl (Nat.le_of_ble_eq_true rfl) | refine Ze0 ?_ | refine ZeD ?_ | refine ZeE ?_ | refine Ze3 ?_ | refine ZeU ?_ | refine Ze5 (by dsimp only; omega) (by dsimp only; omega) (by omega) (by omega) (Nat.le_of_ble_eq_true rfl) ?_); done) rfl rfl rfl) ?_;refine Zav _ (ZeQ _ _ [11, 900] 11 q 901 1 4 n (by first | rfl | (simp (disch := omega) only [go_sem, simprocAttr, hpq, hqp]; done) | (simp (disch := omega) only [go_sem, simprocAttr, hpq, hqp]; rfl)) (by first | (simp (disch := omega) only [go_sem, simprocAttr, hpq, hqp]; done) | (simp (disch := omega) only [go_sem, simprocAttr, hpq, hqp]; rfl)) (by first | (simp (disch := omega) only [go_sem, simprocAttr, hpq, hqp]; done) | (simp (disch := omega) only [go_sem, simprocAttr, hpq, hqp]; rfl)) (fun i hi hne => by simp (disch := omega) only [go_sem, simprocAttr, hne, hpq, hqp]; (repeat' split) <;> exact .ref _ _ _ _ _ ⟨by simp (disch := omega) only [go_sem, simprocAttr, hne, hpq, hqp], by simp (disch := omega) only [go_sem, simprocAttr, hne, hpq, hqp]⟩) (by (repeat' first | refine ZeO ?_ | exact ZeY (ids := [11, 900]) rfl rfl (Nat.le_of_ble_eq_true rfl) | refine Ze0 ?_ | refine ZeD ?_ | refine ZeE ?_ | refine Ze3 ?_ | refine ZeU ?_ | refine Ze5 (by dsimp only; omega) (by dsimp only; omega) (by omega) (by omega) (Nat.le_of_ble_eq_true rfl) ?_); done) rfl rfl rfl) ?_
   repeat' first | refine ZaK rfl ?_ | refine ZaF ?_ | refine Zci (fun s => (Nat.beq 11 s).or ((Nat.beq 37 s).or (Nat.beq 63 s))) Zbr ?_ | (refine ZaM rfl rfl (fun hc => ?_) (fun hc => ?_) <;> try simp only [hcL] at hc) | (refine ZaL _ rfl rfl (fun hc => ?_) (fun hc => ?_) <;> (try simp only [hcL] at hc) <;> try omega) | simp (disch := omega) only [go_sem, simprocAttr, hbk, hp, hq, gf, hpq, hqp, roomy] | apply And.intro | omega | decide +kernel
   ·refine ⟨k + 1, ?_, kF kc0 [(fid 1 p, 38), (fid 1 q, 64)] [] ?_, ?_⟩
    ·omega
    ·exact kT2 (kc8 hsu hpq hqp @List.take_length.{0} @List.length_append.{0} @List.length_cons.{0} @List.length_nil.{0} hc) p q
    ·omega
   ·refine ⟨k + 1, ?_, eF [(fid 1 p, 38), (fid 1 q, 901)] [] _ _ _ (by refine ⟨?_, ?_⟩ <;> (repeat' first | exact fmn | refine fmc ⟨(by first | rfl | (simp (disch := omega) only [go_sem, simprocAttr, inL]; first | done | omega | (congr 1; done))), ?_⟩); done) ?_, ?_⟩
    ·omega
    ·exact kT2 (kc8 hsu hpq hqp @List.take_length.{0} @List.length_append.{0} @List.length_cons.{0} @List.length_nil.{0} hc) p q
    ·omega
  ·refine kw1 kP kc0 kc0 ?_;have : k = l.length := by omega
   subst this;refine Zav _ (Zt9.1 (kG kc0 [] [] [(2, .ref 11 1 0 n n)] [⟨1, 11, 4, n, ZcX l f l.length⟩] [] ?_)) ?_
   ·exact kT0 kc0
   ·refine Zav _ (Zia _ _ _ _ ⟨Zbc rfl, Zbc rfl, (by (repeat' first | exact fmn | refine fmc ⟨⟨Nat.le_of_ble_eq_true rfl, Nat.le_of_ble_eq_true rfl, by dsimp only; omega⟩, ?_⟩); done)⟩ rfl [11] rfl rfl rfl rfl) ?_;refine kw1 kO kc0 kc0 ?_;exact Zdb (o := 11) rfl rfl (by simp) (List.take_of_length_le (by simp))
end Go.Proofs.YtjjbhjnpeenbkaaGreatDoor.Sx
