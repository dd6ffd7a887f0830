/- Barycenters: layers, sweeps, rounds, by the program and by the reference. -/
import Derived.Test.YtldbcbclhpcofaaGreatBaC
import Derived.Test.YtldbcbclhpcofaaGreatBaS5
set_option linter.unusedSimpArgs false
set_option linter.unusedVariables false
namespace Go.Proofs.YtldbcbclhpcofaaGreat
open Go Go.PS Go.Proofs
open Go.Stb
set_option maxRecDepth 100000
attribute [local irreducible] Zax wpG Zah Zai

set_option maxHeartbeats 8000000 in
theorem copied_spec (a : Lv) (h : Zay a = true) : Zah Tryz.prog 63 [lvD a] (lvD a) := by
 obtain ⟨s1, s2, s3⟩ := Zcu h
 obtain ⟨t1, t2⟩ := Zcq h
 have hca := cloneA_spec a.2.2.1 (by omega)
 have hl1 : ∀ (k : Nat) x, a.2.1[k]? = some x → Zah Tryz.prog 62 [Zak x] (Zak x) := fun k x hx => cloneI_spec x (by have := Zbq (List.mem_of_getElem? hx); omega)
 have hl2 : ∀ (k : Nat) x, a.2.2.2[k]? = some x → Zah Tryz.prog 62 [Zak x] (Zak x) := fun k x hx => cloneI_spec x (by have := s3 x (List.mem_of_getElem? hx); omega)
 obtain ⟨n, ls, ar, cs⟩ := a
 dsimp only at *
 refine Zaf Tryz.func63 rfl (by decide +kernel) (Nat.le_of_ble_eq_true rfl) ?_
 intro hat B X w0
 repeat' first | refine Zad rfl ?_ | refine Zac ?_ | refine wR ?_ | (refine rc (hca) rfl ?_ ?_; (· first | rfl | simp (disch := omega) only [go_sem, simprocAttr])) | (refine Zaa rfl rfl (fun hc => ?_) (fun hc => ?_) <;> try simp only [hcL] at hc) | (refine Zab _ rfl rfl (fun hc => ?_) (fun hc => ?_) <;> (try simp only [hcL] at hc) <;> try omega) | simp (disch := omega) only [go_sem, simprocAttr] | apply And.intro | omega | decide +kernel
 refine Zbd _ (Zcl 3 1 901 1 rfl rfl rfl) ?_
 refine Zap (κ := Nat) (fun (k : Nat) => k ≤ ls.length) (fun (k : Nat) => [(1, .ptr 1 0 0 0), (2, .ptr 2 0 0 0), (3, .ptr 3 0 0 0), (15, .d (Zaj ls)), (16, .int ls.length), (17, .int k)]) (fun (k : Nat) => [(1, .cells [.int n, .d (Zaj ls), .d (Zal ar), .d (Zaj cs)]), (2, .cells [.int 0, .nilS, .nilS, .nilS]), (3, .cells [.int n, .ref 901 1 0 k k, .d (Zal ar), .nilS]), (901, .row 1 ((ls.take k).map Zak))]) (fun (k : Nat) => ls.length - k) 0 ?_ ?_ ?_
 ·exact Nat.zero_le _
 ·exact eL [] _ _ (by refine ⟨?_, ?_⟩ <;> (repeat' first | exact fmn | refine fmc ⟨(by first | rfl | (simp (disch := omega) only [go_sem, simprocAttr, inL, List.take_zero, List.map_nil]; first | done | omega | (congr 1; done))), ?_⟩); done)
 ·intro k hk
  have hlk : (ls.take k).length = k := by rw [List.length_take]; omega
  have htk : ((ls.take k).map Zak).take k = (ls.take k).map Zak := List.take_of_length_le (by rw [List.length_map, hlk]; exact Nat.le_refl _)
  rcases Nat.lt_or_ge k ls.length with hlt | hge
  ·obtain ⟨x, hx⟩ := Zan hlt
   have hc1 := hl1 k x hx
   have e1 := Zat hx
   repeat' first | refine Zad rfl ?_ | refine Zac ?_ | refine wR ?_ | (refine rc (hc1) rfl ?_ ?_; (· first | rfl | simp (disch := omega) only [go_sem, simprocAttr, hx, hlk, htk, Zbb])) | (refine Zaa rfl rfl (fun hc => ?_) (fun hc => ?_) <;> try simp only [hcL] at hc) | (refine Zab _ rfl rfl (fun hc => ?_) (fun hc => ?_) <;> (try simp only [hcL] at hc) <;> try omega) | simp (disch := omega) only [go_sem, simprocAttr, hx, hlk, htk, Zbb] | exact fun d hd => by rw [List.mem_singleton.1 hd]; rfl | apply And.intro | omega | decide +kernel
   refine ⟨k + 1, ?_, eL [(901, 26)] _ _ (by refine ⟨?_, ?_⟩ <;> (repeat' first | exact fmn | refine fmc ⟨(by first | rfl | (simp (disch := omega) only [go_sem, simprocAttr, inL, e1, htk, List.map_append, List.map_cons, List.map_nil]; first | done | omega | (congr 1; done))), ?_⟩); done), ?_⟩
   ·omega
   ·omega
  ·have : k = ls.length := by omega
   subst this
   try dsimp only
   rw [List.take_length]
   repeat' first | refine Zad rfl ?_ | refine Zac ?_ | refine wR ?_ | (refine Zaa rfl rfl (fun hc => ?_) (fun hc => ?_) <;> try simp only [hcL] at hc) | (refine Zab _ rfl rfl (fun hc => ?_) (fun hc => ?_) <;> (try simp only [hcL] at hc) <;> try omega) | simp (disch := omega) only [go_sem, simprocAttr] | apply And.intro | omega | decide +kernel
   refine Zbd _ (Zcl 3 3 902 1 rfl rfl rfl) ?_
   refine Zap (κ := Nat) (fun (k : Nat) => k ≤ cs.length) (fun (k : Nat) => [(2, .ptr 2 0 0 0), (3, .ptr 3 0 0 0), (30, .d (Zaj cs)), (31, .int cs.length), (32, .int k)]) (fun (k : Nat) => [(2, .cells [.int 0, .nilS, .nilS, .nilS]), (3, .cells [.int n, .ref 901 1 0 ls.length ls.length, .d (Zal ar), .ref 902 1 0 k k]), (901, .row 1 (ls.map Zak)), (902, .row 1 ((cs.take k).map Zak))]) (fun (k : Nat) => cs.length - k) 0 ?_ ?_ ?_
   ·exact Nat.zero_le _
   ·exact eL [] _ _ (by refine ⟨?_, ?_⟩ <;> (repeat' first | exact fmn | refine fmc ⟨(by first | rfl | (simp (disch := omega) only [go_sem, simprocAttr, inL, List.take_zero, List.map_nil]; first | done | omega | (congr 1; done))), ?_⟩); done)
   ·intro k hk
    have hlk : (cs.take k).length = k := by rw [List.length_take]; omega
    have htk : ((cs.take k).map Zak).take k = (cs.take k).map Zak := List.take_of_length_le (by rw [List.length_map, hlk]; exact Nat.le_refl _)
    rcases Nat.lt_or_ge k cs.length with hlt | hge
    ·obtain ⟨x, hx⟩ := Zan hlt
     have hc1 := hl2 k x hx
     have e1 := Zat hx
     repeat' first | refine Zad rfl ?_ | refine Zac ?_ | refine wR ?_ | (refine rc (hc1) rfl ?_ ?_; (· first | rfl | simp (disch := omega) only [go_sem, simprocAttr, hx, hlk, htk, Zbb])) | (refine Zaa rfl rfl (fun hc => ?_) (fun hc => ?_) <;> try simp only [hcL] at hc) | (refine Zab _ rfl rfl (fun hc => ?_) (fun hc => ?_) <;> (try simp only [hcL] at hc) <;> try omega) | simp (disch := omega) only [go_sem, simprocAttr, hx, hlk, htk, Zbb] | exact fun d hd => by rw [List.mem_singleton.1 hd]; rfl | apply And.intro | omega | decide +kernel
     refine ⟨k + 1, ?_, eL [(902, 41)] _ _ (by refine ⟨?_, ?_⟩ <;> (repeat' first | exact fmn | refine fmc ⟨(by first | rfl | (simp (disch := omega) only [go_sem, simprocAttr, inL, e1, htk, List.map_append, List.map_cons, List.map_nil]; first | done | omega | (congr 1; done))), ?_⟩); done), ?_⟩
     ·omega
     ·omega
    ·have : k = cs.length := by omega
     subst this
     try dsimp only
     rw [List.take_length]
     repeat' first | refine Zad rfl ?_ | refine Zac ?_ | refine wR ?_ | (refine Zaa rfl rfl (fun hc => ?_) (fun hc => ?_) <;> try simp only [hcL] at hc) | (refine Zab _ rfl rfl (fun hc => ?_) (fun hc => ?_) <;> (try simp only [hcL] at hc) <;> try omega) | simp (disch := omega) only [go_sem, simprocAttr] | apply And.intro | omega | decide +kernel
     refine ⟨_, _, _, _, rfl, ?_⟩
     simp (disch := omega) only [go_sem, simprocAttr, toD, List.length_map, Nat.le_refl, List.drop_zero]
     rw [Zae, Zae]
set_option maxHeartbeats 8000000 in
theorem swept_spec (a : Lv) (hw : wide a) (hv : Zay a = true) (har : a.2.2.1.length ≤ 700) : Zah Tryz.prog 64 [lvD a] (lvD (swB a)) := by
 obtain ⟨t1, t2⟩ := Zcq hv
 have hkd := dwnB_kin (Kin.refl hv hw)
 have hku := fun k hk => upB_kin (hkd (a.2.1.length - 1) (Nat.le_refl _)) k hk
 have h1 : ∀ k, k + 1 < a.2.1.length → Zah Tryz.prog 90 [lvD (dwnB a k), .int (k + 1 : Nat), .int k] (lvD (dwnB a (k + 1))) := fun k hk => by
  have hK := hkd k (by omega)
  exact ordered_spec (dwnB a k) (k + 1) k hK.wd hK.ok (by rw [hK.arcs]; exact har) (by rw [hK.len]; omega) (by rw [hK.len]; omega)
 have h2 : ∀ k, k + 1 < a.2.1.length → Zah Tryz.prog 90 [lvD (upB (dwnB a (a.2.1.length - 1)) a.2.1.length k), .int (a.2.1.length - 2 - k : Nat), .int (a.2.1.length - 1 - k : Nat)] (lvD (upB (dwnB a (a.2.1.length - 1)) a.2.1.length (k + 1))) := fun k hk => by
  have hK := hku k (by omega)
  exact ordered_spec _ (a.2.1.length - 2 - k) (a.2.1.length - 1 - k) hK.wd hK.ok (by rw [hK.arcs]; exact har) (by rw [hK.len]; omega) (by rw [hK.len]; omega)
 have hl1 : ∀ k, k ≤ a.2.1.length - 1 → (dwnB a k).2.1.length = a.2.1.length := fun k hk => (hkd k hk).len
 rw [swB]
 have hd0 : dwnB a 0 = a := rfl
 have hu0 : upB (dwnB a (a.2.1.length - 1)) a.2.1.length 0 = dwnB a (a.2.1.length - 1) := rfl
 clear hkd hku
 obtain ⟨N, hN⟩ : ∃ N, N = a.2.1.length := ⟨_, rfl⟩
 rw [← hN] at h1 h2 hl1 hu0 t1 ⊢
 generalize upB (dwnB a (N - 1)) N = U at *
 generalize dwnB a = W at *
 rw [← hd0] at hN
 rw [show a = W 0 from hd0.symm]
 clear hd0
 refine Zaf Tryz.func64 rfl (by decide +kernel) (Nat.le_of_ble_eq_true rfl) ?_
 intro hat B X w0
 repeat' first | refine Zad rfl ?_ | refine Zac ?_ | refine wR ?_ | (refine Zaa rfl rfl (fun hc => ?_) (fun hc => ?_) <;> try simp only [hcL] at hc) | (refine Zab _ rfl rfl (fun hc => ?_) (fun hc => ?_) <;> (try simp only [hcL] at hc) <;> try omega) | simp (disch := omega) only [go_sem, simprocAttr] | apply And.intro | omega | decide +kernel
 refine Zap (κ := Nat) (fun (k : Nat) => k ≤ N - 1) (fun (k : Nat) => [(1, .ptr 1 0 0 0), (2, .ptr 2 0 0 0), (3, .int (k + 1 : Nat))]) (fun (k : Nat) => [(1, .cells [.int (W k).1, .d (Zaj (W k).2.1), .d (Zal (W k).2.2.1), .d (Zaj (W k).2.2.2)]), (2, .cells [.int 0, .nilS, .nilS, .nilS])]) (fun (k : Nat) => N - k) 0 ?_ ?_ ?_
 ·exact Nat.zero_le _
 ·exact eL [] _ _ (by refine ⟨?_, ?_⟩ <;> (repeat' first | exact fmn | refine fmc ⟨(by first | rfl | (simp (disch := omega) only [go_sem, simprocAttr, inL, Nat.zero_add, Int.natCast_one]; first | done | omega | (congr 1; done))), ?_⟩); done)
 ·intro k hk
  have hl := hl1 k hk
  have e1 : ((k + 1 : Nat) : Int) - 1 = (k : Int) := by omega
  have e2 : ((k + 1 : Nat) : Int) + 1 = ((k + 1 + 1 : Nat) : Int) := by omega
  rcases Nat.lt_or_ge (k + 1) N with hlt | hge
  ·have c1 := h1 k hlt
   repeat' first | refine Zad rfl ?_ | refine Zac ?_ | refine wR ?_ | (refine rc (c1) rfl ?_ ?_; (· first | rfl | simp (disch := omega) only [go_sem, simprocAttr, hl, e1, e2])) | (refine Zaa rfl rfl (fun hc => ?_) (fun hc => ?_) <;> try simp only [hcL] at hc) | (refine Zab _ rfl rfl (fun hc => ?_) (fun hc => ?_) <;> (try simp only [hcL] at hc) <;> try omega) | simp (disch := omega) only [go_sem, simprocAttr, hl, e1, e2] | apply And.intro | omega | decide +kernel
   refine ⟨k + 1, ?_, eL [] _ _ (by refine ⟨?_, ?_⟩ <;> (repeat' first | exact fmn | refine fmc ⟨(by first | rfl | (simp (disch := omega) only [go_sem, simprocAttr, inL]; first | done | omega | (congr 1; done))), ?_⟩); done), ?_⟩
   ·omega
   ·omega
  ·have : k = N - 1 := by omega
   subst this
   rw [← hu0] at hl ⊢
   clear hu0 h1
   repeat' first | refine Zad rfl ?_ | refine Zac ?_ | refine wR ?_ | (refine Zaa rfl rfl (fun hc => ?_) (fun hc => ?_) <;> try simp only [hcL] at hc) | (refine Zab _ rfl rfl (fun hc => ?_) (fun hc => ?_) <;> (try simp only [hcL] at hc) <;> try omega) | simp (disch := omega) only [go_sem, simprocAttr, hl] | apply And.intro | omega | decide +kernel
   refine Zap (κ := Nat) (fun (k : Nat) => k ≤ N - 1) (fun (k : Nat) => [(1, .ptr 1 0 0 0), (2, .ptr 2 0 0 0), (4, .int ((N : Int) - 2 - k))]) (fun (k : Nat) => [(1, .cells [.int (U k).1, .d (Zaj (U k).2.1), .d (Zal (U k).2.2.1), .d (Zaj (U k).2.2.2)]), (2, .cells [.int 0, .nilS, .nilS, .nilS])]) (fun (k : Nat) => N - k) 0 ?_ ?_ ?_
   ·exact Nat.zero_le _
   ·exact eL [] _ _ (by refine ⟨?_, ?_⟩ <;> (repeat' first | exact fmn | refine fmc ⟨(by first | rfl | (simp (disch := omega) only [go_sem, simprocAttr, inL, Int.natCast_zero, Int.sub_zero]; first | done | omega | (congr 1; done))), ?_⟩); done)
   ·intro k hk
    rcases Nat.lt_or_ge (k + 1) N with hlt | hge
    ·have c1 := h2 k hlt
     have e3 : (N : Int) - 2 - k = ((N - 2 - k : Nat) : Int) := by omega
     have e4 : ((N - 2 - k : Nat) : Int) + 1 = ((N - 1 - k : Nat) : Int) := by omega
     have e5 : ((N - 2 - k : Nat) : Int) - 1 = (N : Int) - 2 - ((k + 1 : Nat) : Int) := by omega
     rw [e3]
     repeat' first | refine Zad rfl ?_ | refine Zac ?_ | refine wR ?_ | (refine rc (c1) rfl ?_ ?_; (· first | rfl | simp (disch := omega) only [go_sem, simprocAttr, e4, e5])) | (refine Zaa rfl rfl (fun hc => ?_) (fun hc => ?_) <;> try simp only [hcL] at hc) | (refine Zab _ rfl rfl (fun hc => ?_) (fun hc => ?_) <;> (try simp only [hcL] at hc) <;> try omega) | simp (disch := omega) only [go_sem, simprocAttr, e4, e5] | apply And.intro | omega | decide +kernel
     refine ⟨k + 1, ?_, eL [] _ _ (by refine ⟨?_, ?_⟩ <;> (repeat' first | exact fmn | refine fmc ⟨(by first | rfl | (simp (disch := omega) only [go_sem, simprocAttr, inL]; first | done | omega | (congr 1; done))), ?_⟩); done), ?_⟩
     ·omega
     ·omega
    ·have : k = N - 1 := by omega
     subst this
     repeat' first | refine Zad rfl ?_ | refine Zac ?_ | refine wR ?_ | (refine Zaa rfl rfl (fun hc => ?_) (fun hc => ?_) <;> try simp only [hcL] at hc) | (refine Zab _ rfl rfl (fun hc => ?_) (fun hc => ?_) <;> (try simp only [hcL] at hc) <;> try omega) | simp (disch := omega) only [go_sem, simprocAttr] | apply And.intro | omega | decide +kernel
     refine ⟨_, _, _, _, rfl, ?_⟩
     simp (disch := omega) only [go_sem, simprocAttr, toD]
theorem rnd_eq (r : Int) : (if (100 : Int) < (if r < 0 then 0 else r) then (100 : Int) else (if r < 0 then 0 else r)) = (rndB r : Int) := by
 rw [rndB]; split <;> split <;> omega
set_option maxHeartbeats 8000000 in
theorem bRun_spec (a : Lv) (r : Int) (hw : wide a) (har : a.2.2.1.length ≤ 700) : Zah Tryz.prog 37 [lvD a, .int r] (.tup [lvD (brnF a r).1, .int (brnF a r).2]) := by
 have h1 := Zbx a hw
 rw [brnF]
 rcases hv : Zay a with _ | _ <;> rw [hv] at h1
 ·rw [if_neg (by decide)]
  refine Zaf Tryz.func37 rfl (by decide +kernel) (Nat.le_of_ble_eq_true rfl) ?_
  intro hat B X w0
  repeat' first | refine Zad rfl ?_ | refine Zac ?_ | refine wR ?_ | (refine rc (h1) rfl ?_ ?_; (· first | rfl | simp (disch := omega) only [go_sem, simprocAttr])) | (refine Zaa rfl rfl (fun hc => ?_) (fun hc => ?_) <;> try simp only [hcL] at hc) | (refine Zab _ rfl rfl (fun hc => ?_) (fun hc => ?_) <;> (try simp only [hcL] at hc) <;> try omega) | simp (disch := omega) only [go_sem, simprocAttr] | apply And.intro | omega | decide +kernel
  refine ⟨_, rfl, ⟨_, _, _, _, rfl, ?_⟩, Zar rfl, trivial⟩
  simp (disch := omega) only [go_sem, simprocAttr, toD]
  rfl
 ·rw [if_pos rfl]
  obtain ⟨t1, t2⟩ := Zcq hv
  have h2 := copied_spec a hv
  have hk := nowB_kin hv hw
  have h3 : ∀ k, Zah Tryz.prog 64 [lvD (nowB a k)] (lvD (nowB a (k + 1))) := fun k => swept_spec _ (hk k).wd (hk k).ok (by rw [(hk k).arcs]; exact har)
  have h4 : ∀ k, Zah Tryz.prog 38 [lvD (nowB a k)] (.int (Zbg (nowB a k))) := fun k => Total_spec _ (hk k).wd (by rw [(hk k).len]; omega)
  have hbs : ∀ k, bstB a (k + 1) = if Zbg (nowB a (k + 1)) < Zbg (bstB a k) then nowB a (k + 1) else bstB a k := fun _ => rfl
  have hb0 : bstB a 0 = nowB a 0 := rfl
  have hn0 : nowB a 0 = a := rfl
  have hre := rnd_eq r
  have hr100 : rndB r ≤ 100 := by rw [rndB]; omega
  dsimp only
  generalize rndB r = R at *
  rw [← hn0] at h1 h2
  rw [show a = nowB a 0 from rfl]
  rw [show bstB (nowB a 0) = bstB a from rfl]
  clear hk hn0
  generalize nowB a = W at *
  generalize bstB a = Bs at *
  refine Zaf Tryz.func37 rfl (by decide +kernel) (Nat.le_of_ble_eq_true rfl) ?_
  intro hat B X w0
  have h40 := h4 0
  repeat' first | refine Zad rfl ?_ | refine Zac ?_ | refine wR ?_ | (refine rc (h1) rfl ?_ ?_; (· first | rfl | simp (disch := omega) only [go_sem, simprocAttr, hre])) | (refine rc (h2) rfl ?_ ?_; (· first | rfl | simp (disch := omega) only [go_sem, simprocAttr, hre])) | (refine rc (h40) rfl ?_ ?_; (· first | rfl | simp (disch := omega) only [go_sem, simprocAttr, hre])) | (refine Zaa rfl rfl (fun hc => ?_) (fun hc => ?_) <;> try simp only [hcL] at hc) | (refine Zab _ rfl rfl (fun hc => ?_) (fun hc => ?_) <;> (try simp only [hcL] at hc) <;> try omega) | simp (disch := omega) only [go_sem, simprocAttr, hre] | apply And.intro | omega | decide +kernel
  refine Zap (κ := Nat) (fun (k : Nat) => k ≤ R) (fun (k : Nat) => [(2, .ptr 2 0 0 0), (4, .ptr 4 0 0 0), (6, .ptr 6 0 0 0), (7, .int (Zbg (Bs k))), (20, .int R), (21, .int k)]) (fun (k : Nat) => [(2, .cells [.int (W k).1, .d (Zaj (W k).2.1), .d (Zal (W k).2.2.1), .d (Zaj (W k).2.2.2)]), (4, .cells [.int 0, .nilS, .nilS, .nilS]), (6, .cells [.int (Bs k).1, .d (Zaj (Bs k).2.1), .d (Zal (Bs k).2.2.1), .d (Zaj (Bs k).2.2.2)])]) (fun (k : Nat) => R - k) 0 ?_ ?_ ?_
  ·exact Nat.zero_le _
  ·exact eL [] _ _ (by refine ⟨?_, ?_⟩ <;> (repeat' first | exact fmn | refine fmc ⟨(by first | rfl | (simp (disch := omega) only [go_sem, simprocAttr, inL, hb0]; first | done | omega | (congr 1; done))), ?_⟩); done)
  ·intro k hk
   rcases Nat.lt_or_ge k R with hlt | hge
   ·have c1 := h3 k
    have c2 := h4 (k + 1)
    have e1 := hbs k
    by_cases c : Zbg (W (k + 1)) < Zbg (Bs k)
    ·rw [if_pos c] at e1
     repeat' first | refine Zad rfl ?_ | refine Zac ?_ | refine wR ?_ | (refine rc (c1) rfl ?_ ?_; (· first | rfl | simp (disch := omega) only [go_sem, simprocAttr, c])) | (refine rc (c2) rfl ?_ ?_; (· first | rfl | simp (disch := omega) only [go_sem, simprocAttr, c])) | (refine Zaa rfl rfl (fun hc => ?_) (fun hc => ?_) <;> try simp only [hcL] at hc) | (refine Zab _ rfl rfl (fun hc => ?_) (fun hc => ?_) <;> (try simp only [hcL] at hc) <;> try omega) | simp (disch := omega) only [go_sem, simprocAttr, c] | apply And.intro | omega | decide +kernel
     refine ⟨k + 1, ?_, eL [] _ _ (by refine ⟨?_, ?_⟩ <;> (repeat' first | exact fmn | refine fmc ⟨(by first | rfl | (simp (disch := omega) only [go_sem, simprocAttr, inL, e1]; first | done | omega | (congr 1; done))), ?_⟩); done), ?_⟩
     ·omega
     ·omega
    ·rw [if_neg c] at e1
     repeat' first | refine Zad rfl ?_ | refine Zac ?_ | refine wR ?_ | (refine rc (c1) rfl ?_ ?_; (· first | rfl | simp (disch := omega) only [go_sem, simprocAttr, c])) | (refine rc (c2) rfl ?_ ?_; (· first | rfl | simp (disch := omega) only [go_sem, simprocAttr, c])) | (refine Zaa rfl rfl (fun hc => ?_) (fun hc => ?_) <;> try simp only [hcL] at hc) | (refine Zab _ rfl rfl (fun hc => ?_) (fun hc => ?_) <;> (try simp only [hcL] at hc) <;> try omega) | simp (disch := omega) only [go_sem, simprocAttr, c] | apply And.intro | omega | decide +kernel
     refine ⟨k + 1, ?_, eL [] _ _ (by refine ⟨?_, ?_⟩ <;> (repeat' first | exact fmn | refine fmc ⟨(by first | rfl | (simp (disch := omega) only [go_sem, simprocAttr, inL, e1]; first | done | omega | (congr 1; done))), ?_⟩); done), ?_⟩
     ·omega
     ·omega
   ·have : k = R := by omega
    subst this
    repeat' first | refine Zad rfl ?_ | refine Zac ?_ | refine wR ?_ | (refine Zaa rfl rfl (fun hc => ?_) (fun hc => ?_) <;> try simp only [hcL] at hc) | (refine Zab _ rfl rfl (fun hc => ?_) (fun hc => ?_) <;> (try simp only [hcL] at hc) <;> try omega) | simp (disch := omega) only [go_sem, simprocAttr] | apply And.intro | omega | decide +kernel
    refine ⟨_, rfl, ⟨_, _, _, _, rfl, ?_⟩, Zar rfl, trivial⟩
    simp (disch := omega) only [go_sem, simprocAttr, toD]
/-! The reference. -/
set_option maxHeartbeats 8000000 in
theorem rLayerB_spec (a : Lv) (i f : Int) (hw : wide a) (har : a.2.2.1.length ≤ 700) : Zah Tryz.prog 91 [lvD a, .int i, .int f] (lvD (barF a i f)) := by
 have h1 := Zbw a hw
 rw [← valid_same] at h1
 rw [barF]
 rcases hm : matOk a i f with _ | _
 ·rw [if_neg (by decide)]
  rw [matOk] at hm
  rcases hv : Zay a with _ | _ <;> rw [hv] at h1 hm
  ·refine Zaf Tryz.func91 rfl (by decide +kernel) (Nat.le_of_ble_eq_true rfl) ?_
   intro hat B X w0
   repeat' first | refine Zad rfl ?_ | refine Zac ?_ | refine wR ?_ | (refine rc (h1) rfl ?_ ?_; (· first | rfl | simp (disch := omega) only [go_sem, simprocAttr, List.append_eq])) | (refine Zaa rfl rfl (fun hc => ?_) (fun hc => ?_) <;> try simp only [hcL] at hc) | (refine Zab _ rfl rfl (fun hc => ?_) (fun hc => ?_) <;> (try simp only [hcL] at hc) <;> try omega) | simp (disch := omega) only [go_sem, simprocAttr, List.append_eq] | apply And.intro | omega | decide +kernel
   refine ⟨_, _, _, _, rfl, ?_⟩
   simp (disch := omega) only [go_sem, simprocAttr, toD]
   rfl
  ·obtain ⟨t1, t2⟩ := Zcq hv
   have hn : ¬ (((0 ≤ i ∧ i < a.2.1.length) ∧ (0 ≤ f ∧ f < a.2.1.length)) ∧ (f = i - 1 ∨ f = i + 1)) := by simpa [and_assoc] using hm
   obtain ⟨n, ls, ar, cs⟩ := a
   dsimp only at t1 t2 hn
   refine Zaf Tryz.func91 rfl (by decide +kernel) (Nat.le_of_ble_eq_true rfl) ?_
   intro hat B X w0
   repeat' first | refine Zad rfl ?_ | refine Zac ?_ | refine wR ?_ | (refine rc (h1) rfl ?_ ?_; (· first | rfl | simp (disch := omega) only [go_sem, simprocAttr, List.append_eq])) | (refine Zaa rfl rfl (fun hc => ?_) (fun hc => ?_) <;> try simp only [hcL] at hc) | (refine Zab _ rfl rfl (fun hc => ?_) (fun hc => ?_) <;> (try simp only [hcL] at hc) <;> try omega) | simp (disch := omega) only [go_sem, simprocAttr, List.append_eq] | apply And.intro | omega | decide +kernel
   all_goals
    refine ⟨_, _, _, _, rfl, ?_⟩
    simp (disch := omega) only [go_sem, simprocAttr, toD]
    rfl
 ·rw [if_pos rfl]
  obtain ⟨hv, hi, hf, hif⟩ := matOk_in hm
  rw [hv] at h1
  obtain ⟨t1, t2⟩ := Zcq hv
  obtain ⟨i, rfl⟩ : ∃ n : Nat, i = n := ⟨i.toNat, by omega⟩
  obtain ⟨f, rfl⟩ : ∃ n : Nat, f = n := ⟨f.toNat, by omega⟩
  rw [Int.toNat_natCast, Int.toNat_natCast]
  obtain ⟨y, hy⟩ := Zan (l := a.2.1) (k := i) (by omega)
  obtain ⟨z, hz⟩ := Zan (l := a.2.1) (k := f) (by omega)
  have hyl := Zbq (List.mem_of_getElem? hy)
  have h2 := rorder_spec a i f hv har y z hy hz
  have h3 := rReorder_spec a i (ordB y z a.2.2.1) hw (by rw [ordB_len]; omega)
  rw [reorder_perm hv hy (ordB_perm (Zct hv hy) z a.2.2.1)] at h3
  have hlay : layB a i f = putL a i (ordB y z a.2.2.1) := by rw [layB, Zbo hy, Zbo hz]
  rw [← hlay] at h3
  generalize layB a i f = P at *
  obtain ⟨n', ls', ar', cs'⟩ := P
  clear hlay
  generalize ordB y z a.2.2.1 = O at *
  obtain ⟨n, ls, ar, cs⟩ := a
  dsimp only at *
  refine Zaf Tryz.func91 rfl (by decide +kernel) (Nat.le_of_ble_eq_true rfl) ?_
  intro hat B X w0
  repeat' first | refine Zad rfl ?_ | refine Zac ?_ | refine wR ?_ | (refine rc (h1) rfl ?_ ?_; (· first | rfl | simp (disch := omega) only [go_sem, simprocAttr, List.append_eq])) | (refine rc (h2) rfl ?_ ?_; (· first | rfl | simp (disch := omega) only [go_sem, simprocAttr, List.append_eq])) | (refine rc (h3) rfl ?_ ?_; (· first | rfl | simp (disch := omega) only [go_sem, simprocAttr, List.append_eq])) | (refine Zaa rfl rfl (fun hc => ?_) (fun hc => ?_) <;> try simp only [hcL] at hc) | (refine Zab _ rfl rfl (fun hc => ?_) (fun hc => ?_) <;> (try simp only [hcL] at hc) <;> try omega) | simp (disch := omega) only [go_sem, simprocAttr, List.append_eq] | apply And.intro | omega | decide +kernel
  all_goals
   refine ⟨_, _, _, _, rfl, ?_⟩
   simp (disch := omega) only [go_sem, simprocAttr, toD]
theorem rLayerB_nat {a : Lv} {i f : Nat} (hw : wide a) (hv : Zay a = true) (har : a.2.2.1.length ≤ 700) (hi : i < a.2.1.length) (hf : f < a.2.1.length) (h : f + 1 = i ∨ f = i + 1) :
  Zah Tryz.prog 91 [lvD a, .int i, .int f] (lvD (layB a i f)) := by
 have h1 := rLayerB_spec a i f hw har
 have hm : matOk a i f = true := by
  simp only [matOk, hv, Bool.true_and, Bool.and_eq_true, decide_eq_true_eq]
  omega
 rw [barF, if_pos hm] at h1
 exact h1
set_option maxHeartbeats 8000000 in
theorem rSweep_spec (a : Lv) (hw : wide a) (har : a.2.2.1.length ≤ 700) : Zah Tryz.prog 66 [lvD a] (lvD (swpF a)) := by
 have h0 := Zbw a hw
 rw [← valid_same] at h0
 rw [swpF]
 rcases hv : Zay a with _ | _ <;> rw [hv] at h0
 ·rw [if_neg (by decide)]
  refine Zaf Tryz.func66 rfl (by decide +kernel) (Nat.le_of_ble_eq_true rfl) ?_
  intro hat B X w0
  repeat' first | refine Zad rfl ?_ | refine Zac ?_ | refine wR ?_ | (refine rc (h0) rfl ?_ ?_; (· first | rfl | simp (disch := omega) only [go_sem, simprocAttr])) | (refine Zaa rfl rfl (fun hc => ?_) (fun hc => ?_) <;> try simp only [hcL] at hc) | (refine Zab _ rfl rfl (fun hc => ?_) (fun hc => ?_) <;> (try simp only [hcL] at hc) <;> try omega) | simp (disch := omega) only [go_sem, simprocAttr] | apply And.intro | omega | decide +kernel
  refine ⟨_, _, _, _, rfl, ?_⟩
  simp (disch := omega) only [go_sem, simprocAttr, toD]
  rfl
 ·rw [if_pos rfl]
  obtain ⟨t1, t2⟩ := Zcq hv
  have hkd := dwnB_kin (Kin.refl hv hw)
  have hku := fun k hk => upB_kin (hkd (a.2.1.length - 1) (Nat.le_refl _)) k hk
  have h1 : ∀ k, k + 1 < a.2.1.length → Zah Tryz.prog 91 [lvD (dwnB a k), .int (k + 1 : Nat), .int k] (lvD (dwnB a (k + 1))) := fun k hk => by
   have hK := hkd k (by omega)
   exact rLayerB_nat hK.wd hK.ok (by rw [hK.arcs]; exact har) (by rw [hK.len]; omega) (by rw [hK.len]; omega) (.inl rfl)
  have h2 : ∀ k, k + 1 < a.2.1.length → Zah Tryz.prog 91 [lvD (upB (dwnB a (a.2.1.length - 1)) a.2.1.length k), .int (a.2.1.length - 2 - k : Nat), .int (a.2.1.length - 1 - k : Nat)] (lvD (upB (dwnB a (a.2.1.length - 1)) a.2.1.length (k + 1))) := fun k hk => by
   have hK := hku k (by omega)
   exact rLayerB_nat hK.wd hK.ok (by rw [hK.arcs]; exact har) (by rw [hK.len]; omega) (by rw [hK.len]; omega) (.inr (by omega))
  rw [swB]
  have hd0 : dwnB a 0 = a := rfl
  have hu0 : upB (dwnB a (a.2.1.length - 1)) a.2.1.length 0 = dwnB a (a.2.1.length - 1) := rfl
  clear hkd hku
  generalize upB (dwnB a (a.2.1.length - 1)) a.2.1.length = U at *
  generalize dwnB a = W at *
  obtain ⟨n, ls, ar, cs⟩ := a
  dsimp only at *
  refine Zaf Tryz.func66 rfl (by decide +kernel) (Nat.le_of_ble_eq_true rfl) ?_
  intro hat B X w0
  repeat' first | refine Zad rfl ?_ | refine Zac ?_ | refine wR ?_ | (refine rc (h0) rfl ?_ ?_; (· first | rfl | simp (disch := omega) only [go_sem, simprocAttr])) | (refine Zaa rfl rfl (fun hc => ?_) (fun hc => ?_) <;> try simp only [hcL] at hc) | (refine Zab _ rfl rfl (fun hc => ?_) (fun hc => ?_) <;> (try simp only [hcL] at hc) <;> try omega) | simp (disch := omega) only [go_sem, simprocAttr] | apply And.intro | omega | decide +kernel
  refine Zap (κ := Nat) (fun (k : Nat) => k ≤ ls.length - 1) (fun (k : Nat) => [(1, .ptr 1 0 0 0), (2, .ptr 2 0 0 0), (3, .ptr 3 0 0 0), (4, .int (k + 1 : Nat))]) (fun (k : Nat) => [(1, .cells [.int n, .d (Zaj ls), .d (Zal ar), .d (Zaj cs)]), (2, .cells [.int 0, .nilS, .nilS, .nilS]), (3, .cells [.int (W k).1, .d (Zaj (W k).2.1), .d (Zal (W k).2.2.1), .d (Zaj (W k).2.2.2)])]) (fun (k : Nat) => ls.length - k) 0 ?_ ?_ ?_
  ·exact Nat.zero_le _
  ·exact eL [] _ _ (by refine ⟨?_, ?_⟩ <;> (repeat' first | exact fmn | refine fmc ⟨(by first | rfl | (simp (disch := omega) only [go_sem, simprocAttr, inL, Nat.zero_add, Int.natCast_one, hd0]; first | done | omega | (congr 1; done))), ?_⟩); done)
  ·intro k hk
   have e1 : ((k + 1 : Nat) : Int) - 1 = (k : Int) := by omega
   have e2 : ((k + 1 : Nat) : Int) + 1 = ((k + 1 + 1 : Nat) : Int) := by omega
   rcases Nat.lt_or_ge (k + 1) ls.length with hlt | hge
   ·have c1 := h1 k hlt
    repeat' first | refine Zad rfl ?_ | refine Zac ?_ | refine wR ?_ | (refine rc (c1) rfl ?_ ?_; (· first | rfl | simp (disch := omega) only [go_sem, simprocAttr, e1, e2])) | (refine Zaa rfl rfl (fun hc => ?_) (fun hc => ?_) <;> try simp only [hcL] at hc) | (refine Zab _ rfl rfl (fun hc => ?_) (fun hc => ?_) <;> (try simp only [hcL] at hc) <;> try omega) | simp (disch := omega) only [go_sem, simprocAttr, e1, e2] | apply And.intro | omega | decide +kernel
    refine ⟨k + 1, ?_, eL [] _ _ (by refine ⟨?_, ?_⟩ <;> (repeat' first | exact fmn | refine fmc ⟨(by first | rfl | (simp (disch := omega) only [go_sem, simprocAttr, inL]; first | done | omega | (congr 1; done))), ?_⟩); done), ?_⟩
    ·omega
    ·omega
   ·have : k = ls.length - 1 := by omega
    subst this
    rw [← hu0]
    clear hu0 h1
    repeat' first | refine Zad rfl ?_ | refine Zac ?_ | refine wR ?_ | (refine Zaa rfl rfl (fun hc => ?_) (fun hc => ?_) <;> try simp only [hcL] at hc) | (refine Zab _ rfl rfl (fun hc => ?_) (fun hc => ?_) <;> (try simp only [hcL] at hc) <;> try omega) | simp (disch := omega) only [go_sem, simprocAttr] | apply And.intro | omega | decide +kernel
    refine Zap (κ := Nat) (fun (k : Nat) => k ≤ ls.length - 1) (fun (k : Nat) => [(2, .ptr 2 0 0 0), (3, .ptr 3 0 0 0), (5, .int ((ls.length : Int) - 2 - k))]) (fun (k : Nat) => [(2, .cells [.int 0, .nilS, .nilS, .nilS]), (3, .cells [.int (U k).1, .d (Zaj (U k).2.1), .d (Zal (U k).2.2.1), .d (Zaj (U k).2.2.2)])]) (fun (k : Nat) => ls.length - k) 0 ?_ ?_ ?_
    ·exact Nat.zero_le _
    ·exact eL [] _ _ (by refine ⟨?_, ?_⟩ <;> (repeat' first | exact fmn | refine fmc ⟨(by first | rfl | (simp (disch := omega) only [go_sem, simprocAttr, inL, Int.natCast_zero, Int.sub_zero]; first | done | omega | (congr 1; done))), ?_⟩); done)
    ·intro k hk
     rcases Nat.lt_or_ge (k + 1) ls.length with hlt | hge
     ·have c1 := h2 k hlt
      have e3 : (ls.length : Int) - 2 - k = ((ls.length - 2 - k : Nat) : Int) := by omega
      have e4 : ((ls.length - 2 - k : Nat) : Int) + 1 = ((ls.length - 1 - k : Nat) : Int) := by omega
      have e5 : ((ls.length - 2 - k : Nat) : Int) - 1 = (ls.length : Int) - 2 - ((k + 1 : Nat) : Int) := by omega
      rw [e3]
      repeat' first | refine Zad rfl ?_ | refine Zac ?_ | refine wR ?_ | (refine rc (c1) rfl ?_ ?_; (· first | rfl | simp (disch := omega) only [go_sem, simprocAttr, e4, e5])) | (refine Zaa rfl rfl (fun hc => ?_) (fun hc => ?_) <;> try simp only [hcL] at hc) | (refine Zab _ rfl rfl (fun hc => ?_) (fun hc => ?_) <;> (try simp only [hcL] at hc) <;> try omega) | simp (disch := omega) only [go_sem, simprocAttr, e4, e5] | apply And.intro | omega | decide +kernel
      refine ⟨k + 1, ?_, eL [] _ _ (by refine ⟨?_, ?_⟩ <;> (repeat' first | exact fmn | refine fmc ⟨(by first | rfl | (simp (disch := omega) only [go_sem, simprocAttr, inL]; first | done | omega | (congr 1; done))), ?_⟩); done), ?_⟩
      ·omega
      ·omega
     ·have : k = ls.length - 1 := by omega
      subst this
      repeat' first | refine Zad rfl ?_ | refine Zac ?_ | refine wR ?_ | (refine Zaa rfl rfl (fun hc => ?_) (fun hc => ?_) <;> try simp only [hcL] at hc) | (refine Zab _ rfl rfl (fun hc => ?_) (fun hc => ?_) <;> (try simp only [hcL] at hc) <;> try omega) | simp (disch := omega) only [go_sem, simprocAttr] | apply And.intro | omega | decide +kernel
      refine ⟨_, _, _, _, rfl, ?_⟩
      simp (disch := omega) only [go_sem, simprocAttr, toD]
set_option maxHeartbeats 8000000 in
theorem rRunB_spec (a : Lv) (r : Int) (hw : wide a) (har : a.2.2.1.length ≤ 700) : Zah Tryz.prog 39 [lvD a, .int r] (.tup [lvD (brnF a r).1, .int (brnF a r).2]) := by
 have h1 := Zbw a hw
 rw [← valid_same] at h1
 rw [brnF]
 rcases hv : Zay a with _ | _ <;> rw [hv] at h1
 ·rw [if_neg (by decide)]
  refine Zaf Tryz.func39 rfl (by decide +kernel) (Nat.le_of_ble_eq_true rfl) ?_
  intro hat B X w0
  repeat' first | refine Zad rfl ?_ | refine Zac ?_ | refine wR ?_ | (refine rc (h1) rfl ?_ ?_; (· first | rfl | simp (disch := omega) only [go_sem, simprocAttr])) | (refine Zaa rfl rfl (fun hc => ?_) (fun hc => ?_) <;> try simp only [hcL] at hc) | (refine Zab _ rfl rfl (fun hc => ?_) (fun hc => ?_) <;> (try simp only [hcL] at hc) <;> try omega) | simp (disch := omega) only [go_sem, simprocAttr] | apply And.intro | omega | decide +kernel
  refine ⟨_, rfl, ⟨_, _, _, _, rfl, ?_⟩, Zar rfl, trivial⟩
  simp (disch := omega) only [go_sem, simprocAttr, toD]
  rfl
 ·rw [if_pos rfl]
  obtain ⟨t1, t2⟩ := Zcq hv
  have hk := nowB_kin hv hw
  have hkb := bstB_kin hv hw
  have htot : ∀ {b : Lv}, Kin a b → Zah Tryz.prog 20 [lvD b] (.int (Zbg b)) := fun {b} hK => by
   have h := rTotal_spec b hK.wd (by rw [hK.len]; omega)
   rw [← total_same] at h; exact h
  have h3 : ∀ k, Zah Tryz.prog 66 [lvD (nowB a k)] (lvD (nowB a (k + 1))) := fun k => by
   have h := rSweep_spec (nowB a k) (hk k).wd (by rw [(hk k).arcs]; exact har)
   rw [swpF, if_pos (hk k).ok] at h; exact h
  have h4 : ∀ k, Zah Tryz.prog 20 [lvD (nowB a k)] (.int (Zbg (nowB a k))) := fun k => htot (hk k)
  have h5 : ∀ k, Zah Tryz.prog 20 [lvD (bstB a k)] (.int (Zbg (bstB a k))) := fun k => htot (hkb k)
  have hbs : ∀ k, bstB a (k + 1) = if Zbg (nowB a (k + 1)) < Zbg (bstB a k) then nowB a (k + 1) else bstB a k := fun _ => rfl
  have hb0 : bstB a 0 = nowB a 0 := rfl
  have hn0 : nowB a 0 = a := rfl
  obtain ⟨R, hR⟩ : ∃ R, R = rndB r := ⟨_, rfl⟩
  dsimp only
  rw [← hR]
  rw [rndB] at hR
  rw [← hn0] at h1
  rw [show a = nowB a 0 from rfl]
  rw [show bstB (nowB a 0) = bstB a from rfl]
  clear hk hn0 hkb htot
  generalize nowB a = W at *
  generalize bstB a = Bs at *
  refine Zaf Tryz.func39 rfl (by decide +kernel) (Nat.le_of_ble_eq_true rfl) ?_
  intro hat B X w0
  repeat' first | refine Zad rfl ?_ | refine Zac ?_ | refine wR ?_ | (refine rc (h1) rfl ?_ ?_; (· first | rfl | simp (disch := omega) only [go_sem, simprocAttr])) | (refine Zaa rfl rfl (fun hc => ?_) (fun hc => ?_) <;> try simp only [hcL] at hc) | (refine Zab _ rfl rfl (fun hc => ?_) (fun hc => ?_) <;> (try simp only [hcL] at hc) <;> try omega) | simp (disch := omega) only [go_sem, simprocAttr] | apply And.intro | omega | decide +kernel
  refine Zap (κ := Nat) (fun (k : Nat) => k ≤ R) (fun (k : Nat) => [(1, .int r), (4, .ptr 4 0 0 0), (6, .ptr 6 0 0 0), (7, .ptr 7 0 0 0), (8, .int k)]) (fun (k : Nat) => [(4, .cells [.int 0, .nilS, .nilS, .nilS]), (6, .cells [.int (Bs k).1, .d (Zaj (Bs k).2.1), .d (Zal (Bs k).2.2.1), .d (Zaj (Bs k).2.2.2)]), (7, .cells [.int (W k).1, .d (Zaj (W k).2.1), .d (Zal (W k).2.2.1), .d (Zaj (W k).2.2.2)])]) (fun (k : Nat) => R - k) 0 ?_ ?_ ?_
  ·exact Nat.zero_le _
  ·exact eL [] _ _ (by refine ⟨?_, ?_⟩ <;> (repeat' first | exact fmn | refine fmc ⟨(by first | rfl | (simp (disch := omega) only [go_sem, simprocAttr, inL, hb0]; first | done | omega | (congr 1; done))), ?_⟩); done)
  ·intro k hk
   rcases Nat.lt_or_ge k R with hlt | hge
   ·have c1 := h3 k
    have c2 := h4 (k + 1)
    have c3 := h5 k
    have e1 := hbs k
    by_cases c : Zbg (W (k + 1)) < Zbg (Bs k)
    ·rw [if_pos c] at e1
     repeat' first | refine Zad rfl ?_ | refine Zac ?_ | refine wR ?_ | (refine rc (c1) rfl ?_ ?_; (· first | rfl | simp (disch := omega) only [go_sem, simprocAttr, c])) | (refine rc (c2) rfl ?_ ?_; (· first | rfl | simp (disch := omega) only [go_sem, simprocAttr, c])) | (refine rc (c3) rfl ?_ ?_; (· first | rfl | simp (disch := omega) only [go_sem, simprocAttr, c])) | (refine Zaa rfl rfl (fun hc => ?_) (fun hc => ?_) <;> try simp only [hcL] at hc) | (refine Zab _ rfl rfl (fun hc => ?_) (fun hc => ?_) <;> (try simp only [hcL] at hc) <;> try omega) | simp (disch := omega) only [go_sem, simprocAttr, c] | apply And.intro | omega | decide +kernel
     refine ⟨k + 1, ?_, eL [] _ _ (by refine ⟨?_, ?_⟩ <;> (repeat' first | exact fmn | refine fmc ⟨(by first | rfl | (simp (disch := omega) only [go_sem, simprocAttr, inL, e1]; first | done | omega | (congr 1; done))), ?_⟩); done), ?_⟩
     ·omega
     ·omega
    ·rw [if_neg c] at e1
     repeat' first | refine Zad rfl ?_ | refine Zac ?_ | refine wR ?_ | (refine rc (c1) rfl ?_ ?_; (· first | rfl | simp (disch := omega) only [go_sem, simprocAttr, c])) | (refine rc (c2) rfl ?_ ?_; (· first | rfl | simp (disch := omega) only [go_sem, simprocAttr, c])) | (refine rc (c3) rfl ?_ ?_; (· first | rfl | simp (disch := omega) only [go_sem, simprocAttr, c])) | (refine Zaa rfl rfl (fun hc => ?_) (fun hc => ?_) <;> try simp only [hcL] at hc) | (refine Zab _ rfl rfl (fun hc => ?_) (fun hc => ?_) <;> (try simp only [hcL] at hc) <;> try omega) | simp (disch := omega) only [go_sem, simprocAttr, c] | apply And.intro | omega | decide +kernel
     refine ⟨k + 1, ?_, eL [] _ _ (by refine ⟨?_, ?_⟩ <;> (repeat' first | exact fmn | refine fmc ⟨(by first | rfl | (simp (disch := omega) only [go_sem, simprocAttr, inL, e1]; first | done | omega | (congr 1; done))), ?_⟩); done), ?_⟩
     ·omega
     ·omega
   ·have : k = R := by omega
    subst this
    have c3 := h5 k
    repeat' first | refine Zad rfl ?_ | refine Zac ?_ | refine wR ?_ | (refine rc (c3) rfl ?_ ?_; (· first | rfl | simp (disch := omega) only [go_sem, simprocAttr])) | (refine Zaa rfl rfl (fun hc => ?_) (fun hc => ?_) <;> try simp only [hcL] at hc) | (refine Zab _ rfl rfl (fun hc => ?_) (fun hc => ?_) <;> (try simp only [hcL] at hc) <;> try omega) | simp (disch := omega) only [go_sem, simprocAttr] | apply And.intro | omega | decide +kernel
    all_goals
     refine ⟨_, rfl, ⟨_, _, _, _, rfl, ?_⟩, Zar rfl, trivial⟩
     simp (disch := omega) only [go_sem, simprocAttr, toD]
end Go.Proofs.YtldbcbclhpcofaaGreat
namespace Go.Proofs.YtldbcbclhpcofaaGreat
open Go Go.PS Go.Proofs
set_option maxRecDepth 100000
attribute [local irreducible] Zax wpG Zah Zai

theorem accC_zero (a : Lv) (i : Nat) (u v : Nat) : accC a [] (lstN a.2.1 i) 0 i 0 u v = 0 := by
 rw [accC, wCell]; split <;> rfl
set_option maxHeartbeats 16000000 in
theorem omatrix_spec (a : Lv) (i : Nat) (hw : wide a) (hv : Zay a = true) (hil : i < a.2.1.length) :
  Zah Tryz.prog 59 [lvD a, .int i] (Zaj (orM a i)) := by
 obtain ⟨y, hy⟩ := Zan hil
 obtain ⟨t1, t2⟩ := Zcq hv
 have hyl := Zbq (List.mem_of_getElem? hy)
 have hacc := accC_le a [] (lstN a.2.1 i) (w := 0) (by decide) i
 have haccS : ∀ t u v, accC a [] (lstN a.2.1 i) 0 i (t + 1) u v = accC a [] (lstN a.2.1 i) 0 i t u v + Zao (Zau a i (fixT i t)) u v := fun _ _ _ => rfl
 have haccZ := accC_zero a i
 have hMsq : ∀ t, Sq (Zau a i (fixT i t)) := fun t => MatrixF_sq a i (fixT i t)
 have hMlen : ∀ t, (Zau a i (fixT i t)).length = 0 ∨ (Zau a i (fixT i t)).length = y.length := fun t => by
  rw [Zau]
  split
  ·right
   simp [matF, endsF, lenAt, hy]
  ·left; rfl
 have hMs : ∀ t, Zah Tryz.prog 27 [lvD a, .int i, .int (fixT i t)] (Zaj (Zau a i (fixT i t))) := fun t => Matrix_spec a i (fixT i t) hw
 rw [orM, stM]
 rw [Zbo hy] at *
 generalize accC a [] y 0 i = A at *
 obtain ⟨Q, hQ⟩ : ∃ Q : Nat → List (List Int), ∀ t, Zau a i (fixT i t) = Q t := ⟨_, fun _ => rfl⟩
 simp only [hQ] at *
 obtain ⟨N, hN⟩ : ∃ N, N = y.length := ⟨_, rfl⟩
 have hN5 : N ≤ 512 := by omega
 obtain ⟨n, ls, ar, cs⟩ := a
 dsimp only at *
 refine Zaf Tryz.func59 rfl (by decide +kernel) (Nat.le_of_ble_eq_true rfl) ?_
 intro hat B X w0
 repeat' first | refine Zad rfl ?_ | refine Zac ?_ | refine wR ?_ | (refine Zaa rfl rfl (fun hc => ?_) (fun hc => ?_) <;> try simp only [hcL] at hc) | (refine Zab _ rfl rfl (fun hc => ?_) (fun hc => ?_) <;> (try simp only [hcL] at hc) <;> try omega) | simp (disch := omega) only [go_sem, simprocAttr, hy, List.append_eq, ← hN] | apply And.intro | omega | decide +kernel
 refine Zbd _ (ent_famNew 1 19 1 N rfl (fun i hi => by simp (disch := omega) only [go_sem, simprocAttr, obOf_fid, argEnv]) (by decide) (by decide)) ?_
 have hiN : ∀ (k : Nat) (x y : List D), k < N → (if k < N then x else y) = x := fun k x y h => if_pos h
 have hz : ∀ u, List.replicate N (D.int 0) = (rowG (A 0 u) N).map D.int := fun u => by
  rw [rowG_zero]; congr 1; exact Zco fun v _ => (haccZ u v).symm
 refine Zaq (κ := Nat) (fun (u : Nat) => u ≤ N) (fun (u : Nat) => [(1, .int i), (2, .ptr 2 0 0 0), (5, .ref 19 1 0 N N), (21, .int N), (22, .int u)]) (fun (u : Nat) => [⟨1, 19, 1, N, fun k => if k < u then (rowG (A 0 k) N).map D.int else []⟩]) (fun (u : Nat) => [(2, .cells [.int n, .d (Zaj ls), .d (Zal ar), .d (Zaj cs)])]) (fun (u : Nat) => N - u) 0 ?_ ?_ ?_
 ·exact Nat.zero_le _
 ·refine eF [] [] _ _ _ (by refine ⟨?_, ?_⟩ <;> (repeat' first | exact fmn | refine fmc ⟨(by first | rfl | (simp (disch := omega) only [go_sem, simprocAttr, inL, ← hN]; first | done | omega | (congr 1; done))), ?_⟩); done) ?_
  repeat' first | exact fmn | refine fmc ⟨?_, ?_⟩
  all_goals refine ⟨_, (by first | rfl | (simp (disch := omega) only [go_sem, simprocAttr, Nat.not_lt_zero]; done) | (simp (disch := omega) only [go_sem, simprocAttr, Nat.not_lt_zero]; rfl)), fun i hi => ?_⟩
  all_goals dsimp only at hi ⊢
  all_goals try (exfalso; omega)
  all_goals try (simp (disch := omega) only [go_sem, simprocAttr, Nat.not_lt_zero, Zaw, Zav]; done)
 ·intro u hu
  rcases Nat.lt_or_ge u N with hlt | hge
  ·have hzu := hz u
   have hnu : ¬ u < u := by omega
   have hrl := Zcr (A 0 u) N
   have hsu : ∀ i, i ≠ u → ((i < u + 1) = (i < u)) := fun i h => propext (by omega)
   refine Zbd _ (ent_bor _ _ [2, 19] 19 u 900 1 1 N (by first | rfl | (simp (disch := omega) only [go_sem, simprocAttr, hnu]; done) | (simp (disch := omega) only [go_sem, simprocAttr, hnu]; rfl)) (by first | (simp (disch := omega) only [go_sem, simprocAttr, hnu]; done) | (simp (disch := omega) only [go_sem, simprocAttr, hnu]; rfl)) (by first | (simp (disch := omega) only [go_sem, simprocAttr, hnu]; done) | (simp (disch := omega) only [go_sem, simprocAttr, hnu]; rfl)) (fun i hi hne => by simp (disch := omega) only [go_sem, simprocAttr, hne, hnu]; (repeat' split) <;> exact .ref _ _ _ _ _ ⟨by simp (disch := omega) only [go_sem, simprocAttr, hne, hnu], by simp (disch := omega) only [go_sem, simprocAttr, hne, hnu]⟩) (by (repeat' first | refine ab_nil ?_ | exact ab_obOf (ids := [2, 19]) rfl rfl (Nat.le_of_ble_eq_true rfl) | refine ab_hole ?_ | refine ab_row ?_ | refine ab_dead ?_ | refine ab_self ?_ | refine Zcv ?_ | refine ab_fam (by dsimp only; omega) (by dsimp only; omega) (by omega) (by omega) (Nat.le_of_ble_eq_true rfl) ?_); done) rfl rfl rfl) ?_
   repeat' first | refine Zad rfl ?_ | refine Zac ?_ | refine wR ?_ | (refine Zaa rfl rfl (fun hc => ?_) (fun hc => ?_) <;> try simp only [hcL] at hc) | (refine Zab _ rfl rfl (fun hc => ?_) (fun hc => ?_) <;> (try simp only [hcL] at hc) <;> try omega) | simp (disch := omega) only [go_sem, simprocAttr, ← hN, hnu] | apply And.intro | omega | decide +kernel
   refine ⟨u + 1, ?_, eF [(fid 1 u, 29)] [] _ _ _ (by refine ⟨?_, ?_⟩ <;> (repeat' first | exact fmn | refine fmc ⟨(by first | rfl | (simp (disch := omega) only [go_sem, simprocAttr, inL]; first | done | omega | (congr 1; done))), ?_⟩); done) ?_, ?_⟩
   ·omega
   ·repeat' first | exact fmn | refine fmc ⟨?_, ?_⟩
    all_goals refine ⟨_, (by first | rfl | (simp (disch := omega) only [go_sem, simprocAttr, hzu, hrl, hnu, hsu, Nat.lt_add_one, List.length_map]; done) | (simp (disch := omega) only [go_sem, simprocAttr, hzu, hrl, hnu, hsu, Nat.lt_add_one, List.length_map]; rfl)), fun i hi => ?_⟩
    all_goals dsimp only at hi ⊢
    all_goals rcases Decidable.em (i = u) with rfl | hi0
    all_goals try (exfalso; omega)
    all_goals try (simp (disch := omega) only [go_sem, simprocAttr, hzu, hrl, hnu, hsu, Nat.lt_add_one, List.length_map, Zaw, Zav]; done)
    all_goals try (simp (disch := omega) only [go_sem, simprocAttr, hzu, hrl, hnu, hsu, Nat.lt_add_one, List.length_map, hi0, Zaw, Zav]; done)
   ·omega
  ·have : N = u := by omega
   subst this
   try dsimp only
   obtain ⟨F, hF⟩ : ∃ F : List D, F = [D.int ((i : Int) - 1), D.int ((i : Int) + 1)] := ⟨_, rfl⟩
   have hFl : F.length = 2 := by rw [hF]; rfl
   have hFx : ∀ t, t < 2 → F[t]? = some (D.int (fixT i t)) := fun t ht => by
    rw [hF]
    rcases t with _ | _ | t
    ·rfl
    ·rfl
    ·omega
   repeat' first | refine Zad rfl ?_ | refine Zac ?_ | refine wR ?_ | (refine Zaa rfl rfl (fun hc => ?_) (fun hc => ?_) <;> try simp only [hcL] at hc) | (refine Zab _ rfl rfl (fun hc => ?_) (fun hc => ?_) <;> (try simp only [hcL] at hc) <;> try omega) | simp (disch := omega) only [go_sem, simprocAttr] | apply And.intro | omega | decide +kernel
   refine Zaq (κ := Nat) (fun (t : Nat) => t ≤ 2) (fun (t : Nat) => [(1, .int i), (2, .ptr 2 0 0 0), (5, .ref 19 1 0 N N), (36, .d (.sl F)), (37, .int 2), (38, .int t)]) (fun (t : Nat) => [⟨1, 19, 1, N, fun k => (rowG (A t k) N).map D.int⟩]) (fun (t : Nat) => [(2, .cells [.int n, .d (Zaj ls), .d (Zal ar), .d (Zaj cs)])]) (fun (t : Nat) => 2 - t) 0 ?_ ?_ ?_
   ·exact Nat.zero_le _
   ·refine eF [] [] _ _ _ (by refine ⟨?_, ?_⟩ <;> (repeat' first | exact fmn | refine fmc ⟨(by first | rfl | (simp (disch := omega) only [go_sem, simprocAttr, inL, hF]; first | done | omega | (congr 1; done))), ?_⟩); done) ?_
    repeat' first | exact fmn | refine fmc ⟨?_, ?_⟩
    all_goals refine ⟨_, (by first | rfl | (simp (disch := omega) only [go_sem, simprocAttr, hiN]; done) | (simp (disch := omega) only [go_sem, simprocAttr, hiN]; rfl)), fun i hi => ?_⟩
    all_goals dsimp only at hi ⊢
    all_goals try (exfalso; omega)
    all_goals try (simp (disch := omega) only [go_sem, simprocAttr, hiN, Zaw, Zav]; done)
   ·intro t ht
    rcases Nat.lt_or_ge t 2 with hlt2 | hge2
    ·have hx := hFx t hlt2
     have hM := hMs t
     have hsq := hMsq t
     have hml := hMlen t
     have hS := haccS t
     generalize hR : Q t = R at *
     repeat' first | refine Zad rfl ?_ | refine Zac ?_ | refine wR ?_ | (refine rc (hM) rfl ?_ ?_; (· first | rfl | simp (disch := omega) only [go_sem, simprocAttr, hx, List.append_eq])) | (refine Zaa rfl rfl (fun hc => ?_) (fun hc => ?_) <;> try simp only [hcL] at hc) | (refine Zab _ rfl rfl (fun hc => ?_) (fun hc => ?_) <;> (try simp only [hcL] at hc) <;> try omega) | simp (disch := omega) only [go_sem, simprocAttr, hx, List.append_eq] | apply And.intro | omega | decide +kernel
     refine Zaq (κ := Nat) (fun (c : Nat) => c ≤ R.length) (fun (c : Nat) => [(1, .int i), (2, .ptr 2 0 0 0), (5, .ref 19 1 0 N N), (36, .d (.sl F)), (37, .int 2), (38, .int t), (45, .d (Zaj R)), (46, .int R.length), (47, .int c)]) (fun (c : Nat) => [⟨1, 19, 1, N, fun k => if k < c then (rowG (A (t + 1) k) N).map D.int else (rowG (A t k) N).map D.int⟩]) (fun (c : Nat) => [(2, .cells [.int n, .d (Zaj ls), .d (Zal ar), .d (Zaj cs)])]) (fun (c : Nat) => R.length - c) 0 ?_ ?_ ?_
     ·exact Nat.zero_le _
     ·refine eF [] [] _ _ _ (by refine ⟨?_, ?_⟩ <;> (repeat' first | exact fmn | refine fmc ⟨(by first | rfl | (simp (disch := omega) only [go_sem, simprocAttr, inL, hFl]; first | done | omega | (congr 1; done))), ?_⟩); done) ?_
      repeat' first | exact fmn | refine fmc ⟨?_, ?_⟩
      all_goals refine ⟨_, (by first | rfl | (simp (disch := omega) only [go_sem, simprocAttr, Nat.not_lt_zero]; done) | (simp (disch := omega) only [go_sem, simprocAttr, Nat.not_lt_zero]; rfl)), fun i hi => ?_⟩
      all_goals dsimp only at hi ⊢
      all_goals try (exfalso; omega)
      all_goals try (simp (disch := omega) only [go_sem, simprocAttr, Nat.not_lt_zero, Zaw, Zav]; done)
     ·intro c hc0
      rcases Nat.lt_or_ge c R.length with hlc | hgc
      ·have hRN : R.length = N := by omega
       obtain ⟨r, hr⟩ := Zan hlc
       have hrl := hsq.row r (List.mem_of_getElem? hr)
       have hrN : r.length = N := by omega
       have hnu : ¬ c < c := by omega
       repeat' first | refine Zad rfl ?_ | refine Zac ?_ | refine wR ?_ | (refine Zaa rfl rfl (fun hc => ?_) (fun hc => ?_) <;> try simp only [hcL] at hc) | (refine Zab _ rfl rfl (fun hc => ?_) (fun hc => ?_) <;> (try simp only [hcL] at hc) <;> try omega) | simp (disch := omega) only [go_sem, simprocAttr, hr, hrN] | apply And.intro | omega | decide +kernel
       refine Zaq (κ := Nat) (fun (b : Nat) => b ≤ N) (fun (b : Nat) => [(1, .int i), (2, .ptr 2 0 0 0), (5, .ref 19 1 0 N N), (9, .int c), (36, .d (.sl F)), (37, .int 2), (38, .int t), (45, .d (Zaj R)), (46, .int R.length), (47, .int c), (52, .d (Zak r)), (53, .int N), (54, .int b)]) (fun (b : Nat) => [⟨1, 19, 1, N, fun k => if k < c then (rowG (A (t + 1) k) N).map D.int else if k = c then (mixR (A t c) (A (t + 1) c) N b).map D.int else (rowG (A t k) N).map D.int⟩]) (fun (b : Nat) => [(2, .cells [.int n, .d (Zaj ls), .d (Zal ar), .d (Zaj cs)])]) (fun (b : Nat) => N - b) 0 ?_ ?_ ?_
       ·exact Nat.zero_le _
       ·refine eF [] [] _ _ _ (by refine ⟨?_, ?_⟩ <;> (repeat' first | exact fmn | refine fmc ⟨(by first | rfl | (simp (disch := omega) only [go_sem, simprocAttr, inL, hrN]; first | done | omega | (congr 1; done))), ?_⟩); done) ?_
        repeat' first | exact fmn | refine fmc ⟨?_, ?_⟩
        all_goals refine ⟨_, (by first | rfl | (simp (disch := omega) only [go_sem, simprocAttr, hnu, mixR_zero]; done) | (simp (disch := omega) only [go_sem, simprocAttr, hnu, mixR_zero]; rfl)), fun i hi => ?_⟩
        all_goals dsimp only at hi ⊢
        all_goals rcases Decidable.em (i = c) with rfl | hi0
        all_goals try (exfalso; omega)
        all_goals try (simp (disch := omega) only [go_sem, simprocAttr, hnu, mixR_zero, Zaw, Zav]; done)
        all_goals try (simp (disch := omega) only [go_sem, simprocAttr, hnu, mixR_zero, hi0, Zaw, Zav]; done)
       ·intro b hb
        have hfl2 := mixR_len (A t c) (A (t + 1) c) N b
        rcases Nat.lt_or_ge b N with hlb | hgb
        ·obtain ⟨p, hp, _, hpv, g1, g2⟩ := hsq.get hlc (show b < R.length by omega)
         rw [hr, Option.some.injEq] at hp
         rw [← hp] at hpv
         have hcell := hS c b
         have ha := hacc t c b
         have hg : (mixR (A t c) (A (t + 1) c) N b)[b]? = some (A t c b) := mixR_get hlb
         have hst : (mixR (A t c) (A (t + 1) c) N b).set b (A (t + 1) c b) = mixR (A t c) (A (t + 1) c) N (b + 1) := mixR_step hlb
         rw [hcell] at hst
         refine Zbd _ (ent_bor _ _ [2, 19] 19 c 900 1 1 N (by first | rfl | (simp (disch := omega) only [go_sem, simprocAttr, hnu, hfl2]; done) | (simp (disch := omega) only [go_sem, simprocAttr, hnu, hfl2]; rfl)) (by first | (simp (disch := omega) only [go_sem, simprocAttr, hnu, hfl2]; done) | (simp (disch := omega) only [go_sem, simprocAttr, hnu, hfl2]; rfl)) (by first | (simp (disch := omega) only [go_sem, simprocAttr, hnu, hfl2]; done) | (simp (disch := omega) only [go_sem, simprocAttr, hnu, hfl2]; rfl)) (fun i hi hne => by simp (disch := omega) only [go_sem, simprocAttr, hne, hnu, hfl2]; (repeat' split) <;> exact .ref _ _ _ _ _ ⟨by simp (disch := omega) only [go_sem, simprocAttr, hne, hnu, hfl2], by simp (disch := omega) only [go_sem, simprocAttr, hne, hnu, hfl2]⟩) (by (repeat' first | refine ab_nil ?_ | exact ab_obOf (ids := [2, 19]) rfl rfl (Nat.le_of_ble_eq_true rfl) | refine ab_hole ?_ | refine ab_row ?_ | refine ab_dead ?_ | refine ab_self ?_ | refine Zcv ?_ | refine ab_fam (by dsimp only; omega) (by dsimp only; omega) (by omega) (by omega) (Nat.le_of_ble_eq_true rfl) ?_); done) rfl rfl rfl) ?_
         repeat' first | refine Zad rfl ?_ | refine Zac ?_ | refine wR ?_ | (refine Zaa rfl rfl (fun hc => ?_) (fun hc => ?_) <;> try simp only [hcL] at hc) | (refine Zab _ rfl rfl (fun hc => ?_) (fun hc => ?_) <;> (try simp only [hcL] at hc) <;> try omega) | simp (disch := omega) only [go_sem, simprocAttr, hr, hrN, hpv, hg, hfl2, hnu] | apply And.intro | omega | decide +kernel
         refine ⟨b + 1, ?_, eF [(fid 1 c, 900)] [] _ _ _ (by refine ⟨?_, ?_⟩ <;> (repeat' first | exact fmn | refine fmc ⟨(by first | rfl | (simp (disch := omega) only [go_sem, simprocAttr, inL]; first | done | omega | (congr 1; done))), ?_⟩); done) ?_, ?_⟩
         ·omega
         ·repeat' first | exact fmn | refine fmc ⟨?_, ?_⟩
          all_goals refine ⟨_, (by first | rfl | (simp (disch := omega) only [go_sem, simprocAttr, hst.symm, List.map_set, List.length_set, List.length_map, hfl2, hnu]; done) | (simp (disch := omega) only [go_sem, simprocAttr, hst.symm, List.map_set, List.length_set, List.length_map, hfl2, hnu]; rfl)), fun i hi => ?_⟩
          all_goals dsimp only at hi ⊢
          all_goals rcases Decidable.em (i = c) with rfl | hi0
          all_goals try (exfalso; omega)
          all_goals try (simp (disch := omega) only [go_sem, simprocAttr, hst.symm, List.map_set, List.length_set, List.length_map, hfl2, hnu, Zaw, Zav]; done)
          all_goals try (simp (disch := omega) only [go_sem, simprocAttr, hst.symm, List.map_set, List.length_set, List.length_map, hfl2, hnu, hi0, Zaw, Zav]; done)
         ·omega
        ·have : N = b := by omega
         subst this
         have hsu : ∀ i, i ≠ c → ((i < c + 1) = (i < c)) := fun i h => propext (by omega)
         repeat' first | refine Zad rfl ?_ | refine Zac ?_ | refine wR ?_ | (refine Zaa rfl rfl (fun hc => ?_) (fun hc => ?_) <;> try simp only [hcL] at hc) | (refine Zab _ rfl rfl (fun hc => ?_) (fun hc => ?_) <;> (try simp only [hcL] at hc) <;> try omega) | simp (disch := omega) only [go_sem, simprocAttr] | apply And.intro | omega | decide +kernel
         refine ⟨c + 1, ?_, eF [] [] _ _ _ (by refine ⟨?_, ?_⟩ <;> (repeat' first | exact fmn | refine fmc ⟨(by first | rfl | (simp (disch := omega) only [go_sem, simprocAttr, inL]; first | done | omega | (congr 1; done))), ?_⟩); done) ?_, ?_⟩
         ·omega
         ·repeat' first | exact fmn | refine fmc ⟨?_, ?_⟩
          all_goals refine ⟨_, (by first | rfl | (simp (disch := omega) only [go_sem, simprocAttr, hnu, hsu, Nat.lt_add_one, mixR_full]; done) | (simp (disch := omega) only [go_sem, simprocAttr, hnu, hsu, Nat.lt_add_one, mixR_full]; rfl)), fun i hi => ?_⟩
          all_goals dsimp only at hi ⊢
          all_goals rcases Decidable.em (i = c) with rfl | hi0
          all_goals try (exfalso; omega)
          all_goals try (simp (disch := omega) only [go_sem, simprocAttr, hnu, hsu, Nat.lt_add_one, mixR_full, Zaw, Zav]; done)
          all_goals try (simp (disch := omega) only [go_sem, simprocAttr, hnu, hsu, Nat.lt_add_one, mixR_full, hi0, Zaw, Zav]; done)
         ·omega
      ·have : R.length = c := by omega
       subst this
       repeat' first | refine Zad rfl ?_ | refine Zac ?_ | refine wR ?_ | (refine Zaa rfl rfl (fun hc => ?_) (fun hc => ?_) <;> try simp only [hcL] at hc) | (refine Zab _ rfl rfl (fun hc => ?_) (fun hc => ?_) <;> (try simp only [hcL] at hc) <;> try omega) | simp (disch := omega) only [go_sem, simprocAttr] | apply And.intro | omega | decide +kernel
       rcases hml with hml | hml
       ·have hsame : ∀ k, rowG (A (t + 1) k) N = rowG (A t k) N := fun k => Zco fun v _ => by
         rw [hS, Zao, lstN_out (by omega)]; simp [at0]
        refine ⟨t + 1, ?_, eF [] [] _ _ _ (by refine ⟨?_, ?_⟩ <;> (repeat' first | exact fmn | refine fmc ⟨(by first | rfl | (simp (disch := omega) only [go_sem, simprocAttr, inL]; first | done | omega | (congr 1; done))), ?_⟩); done) ?_, ?_⟩
        ·omega
        ·repeat' first | exact fmn | refine fmc ⟨?_, ?_⟩
         all_goals refine ⟨_, (by first | rfl | (simp (disch := omega) only [go_sem, simprocAttr, hml, Nat.not_lt_zero, hsame]; done) | (simp (disch := omega) only [go_sem, simprocAttr, hml, Nat.not_lt_zero, hsame]; rfl)), fun i hi => ?_⟩
         all_goals dsimp only at hi ⊢
         all_goals try (exfalso; omega)
         all_goals try (simp (disch := omega) only [go_sem, simprocAttr, hml, Nat.not_lt_zero, hsame, Zaw, Zav]; done)
        ·omega
       ·have hRN : R.length = N := by omega
        refine ⟨t + 1, ?_, eF [] [] _ _ _ (by refine ⟨?_, ?_⟩ <;> (repeat' first | exact fmn | refine fmc ⟨(by first | rfl | (simp (disch := omega) only [go_sem, simprocAttr, inL]; first | done | omega | (congr 1; done))), ?_⟩); done) ?_, ?_⟩
        ·omega
        ·repeat' first | exact fmn | refine fmc ⟨?_, ?_⟩
         all_goals refine ⟨_, (by first | rfl | (simp (disch := omega) only [go_sem, simprocAttr, hRN, hiN]; done) | (simp (disch := omega) only [go_sem, simprocAttr, hRN, hiN]; rfl)), fun i hi => ?_⟩
         all_goals dsimp only at hi ⊢
         all_goals try (exfalso; omega)
         all_goals try (simp (disch := omega) only [go_sem, simprocAttr, hRN, hiN, Zaw, Zav]; done)
        ·omega
    ·have : t = 2 := by omega
     subst this
     try dsimp only
     refine Zbd _ (Zcp _ _ _ _ ⟨Zba rfl, Zba rfl, (by (repeat' first | exact fmn | refine fmc ⟨⟨Nat.le_of_ble_eq_true rfl, Nat.le_of_ble_eq_true rfl, by dsimp only; omega⟩, ?_⟩); done)⟩ rfl [2, 19] rfl rfl rfl rfl) ?_
     repeat' first | refine Zad rfl ?_ | refine Zac ?_ | refine wR ?_ | (refine Zaa rfl rfl (fun hc => ?_) (fun hc => ?_) <;> try simp only [hcL] at hc) | (refine Zab _ rfl rfl (fun hc => ?_) (fun hc => ?_) <;> (try simp only [hcL] at hc) <;> try omega) | simp (disch := omega) only [go_sem, simprocAttr] | apply And.intro | omega | decide +kernel
     refine Zci (o := 19) rfl rfl (by simp) ?_
     rw [List.take_of_length_le (by simp), sqM, List.map_map]
     rfl
end Go.Proofs.YtldbcbclhpcofaaGreat
