/- Levels built by the reference: the walk. -/
import Derived.Test.YtjjbhjnpeenbkaaGreatDoorTypes
set_option linter.unusedSimpArgs false
set_option linter.unusedVariables false
set_option maxHeartbeats 16000000
namespace Go.Proofs.YtjjbhjnpeenbkaaGreatDoor
open Go Go.PS Go.Proofs
set_option maxRecDepth 100000
attribute [local irreducible] Zab wpG Zaa Zaf

theorem Zec (r : List Int) : ∀ d, d ∈ List.map D.int r → d.cells.length = 1 := by
 intro d hd;obtain ⟨x, _, rfl⟩ := List.mem_map.1 hd;rfl
def hiN (r : List Int) : Nat → Int
 | 0 => -1
 | k + 1 => max (hiN r k) (at0 r k)
theorem Zn7 {r : List Int} (h : ∀ v : Nat, 0 ≤ at0 r v) : ∀ k : Nat, hiN r (k + 1) = Zch r k
 | 0 => by
  have h0 := h 0;show max (-1) (at0 r ((0 : Nat) : Int)) = at0 r ((0 : Nat) : Int);omega
 | k + 1 => by rw [hiN, Zn7 h k, Zch]
def ZbB (all : List Int) (k : Nat) : List (List Int) := (List.range k).map fun j => ZaX all j
theorem Zu1 (all : List Int) (k : Nat) : ZbB all (k + 1) = ZbB all k ++ [ZaX all k] := by simp [ZbB, List.range_succ]
theorem Zlb (all : List Int) (k : Nat) : (ZbB all k).length = k := by simp [ZbB]
theorem Zu4 (n : Nat) (l : List Arc) (r : List Int) (hrn : r.length = n) (hn : n ≤ 64) (hl : l.length ≤ 256) (g4 : ∀ (k : Nat) (a : Arc), l[k]? = some a → 0 ≤ a.1 ∧ a.1 < n ∧ 0 ≤ a.2 ∧ a.2 < n)
  (h5 : ∀ v : Nat, 0 ≤ at0 r v ∧ at0 r v ≤ 255) (hgap : ∀ (k : Nat) a, l[k]? = some a → 0 ≤ at0 r a.2 - at0 r a.1 - 1) (hbig : (n : Int) + Za0 r l l.length ≤ 512) :
  Zaa Tryz.prog 113 [gD (n, l), Zac r] (lvD (Zd5 (n, l) r)) := by
 have allR_len : ∀ e, e ≤ l.length → (Zaz r l e).length ≤ 512 := fun e he => by
  have h1 := Zkh hgap e he;have h2 := ZpV hgap l.length e he;omega
 have hA0 : Zaz r l 0 = r := by simp [Zaz]
 refine kE Tryz.func113 ?_;intro hat B X w0
 repeat' first | refine ZaK rfl ?_ | refine ZaF ?_ | refine Zci (Nat.beq 20) Zbr ?_ | (refine ZaM rfl rfl (fun hc => ?_) (fun hc => ?_) <;> try simp only [hcL] at hc) | (refine ZaL _ rfl rfl (fun hc => ?_) (fun hc => ?_) <;> (try simp only [hcL] at hc) <;> try omega) | simp (disch := omega) only [go_sem, simprocAttr, List.append_eq, hrn, roomy] | exact Zec r | apply And.intro | omega | decide +kernel
 refine Zav _ (Zcs 5 1 905 1 rfl rfl rfl) ?_;refine Zav _ (Zcs 5 2 901 2 rfl rfl rfl) ?_;refine Zav _ (Zcs 5 3 902 1 rfl rfl rfl) ?_;refine Zai (fun (e : Nat) => e ≤ l.length) (fun e => [(1, .d (Zac r)), (2, .ptr 2 0 0 0), (4, .ptr 4 0 0 0), (5, .ptr 5 0 0 0), (6, .ref 904 1 0 (Zaz r l e).length (Zaz r l e).length), (7, .int e)]) (fun e => [(2, .cells [.int n, .d (Zak l)]), (4, .cells [.int 0, .nilS, .nilS, .nilS]), (5, .cells [.int n, .ref 905 1 0 0 0, .ref 901 2 0 (ZaT r l e).length (ZaT r l e).length, .ref 902 1 0 (Za1 r l e).length (Za1 r l e).length]), (905, .row 1 []), (901, .row 2 ((ZaT r l e).map ZaY)), (902, .row 1 ((Za1 r l e).map Zac)), (904, .row 1 ((Zaz r l e).map D.int))]) (fun e => l.length - e) 0 ?_ ?_ ?_
 ·exact Nat.zero_le _
 ·exact kN (kc2 hA0 hrn) [(904, 22)]
 ·intro e he;rcases Nat.lt_or_ge e l.length with hel | hel
  ·obtain ⟨a, ha⟩ := Zad hel;have hai := g4 e a ha;have hga := hgap e a ha;have e1 := Zey (r := r) (v := a.1) hai.1 (by omega);have e2 := Zey (r := r) (v := a.2) hai.2.2.1 (by omega);have f1 := h5 a.1.toNat;have f2 := h5 a.2.toNat;rw [show ((a.1.toNat : Nat) : Int) = a.1 by omega] at f1;rw [show ((a.2.toNat : Nat) : Int) = a.2 by omega] at f2;have hgn : (ZaC r a : Int) = at0 r a.2 - at0 r a.1 - 1 := by rw [ZaC]; omega
   have hall := Zip (r := r) ha;have hal := allR_len e he;have hafl := Zjj hgap e he;generalize hA : Zaz r l e = all at hal hall hafl
   try dsimp only
   try rw [hA]
   repeat' first | refine ZaK rfl ?_ | refine ZaF ?_ | refine Zci (Nat.beq 37) Zbr ?_ | (refine ZaM rfl rfl (fun hc => ?_) (fun hc => ?_) <;> try simp only [hcL] at hc) | (refine ZaL _ rfl rfl (fun hc => ?_) (fun hc => ?_) <;> (try simp only [hcL] at hc) <;> try omega) | simp (disch := omega) only [go_sem, simprocAttr, ha, e1, hrn] | apply And.intro | omega | decide +kernel
   refine Zai (fun (u : Nat) => u ≤ ZaC r a) (fun u => [(1, .d (Zac r)), (2, .ptr 2 0 0 0), (4, .ptr 4 0 0 0), (5, .ptr 5 0 0 0), (6, .ref 904 1 0 (all.length + u) (all.length + u)), (7, .int e), (8, .ptr 8 0 0 0), (9, .ref 903 1 0 (u + 1) (u + 1)), (10, .int (at0 r a.1 + 1 + u))]) (fun u => [(2, .cells [.int n, .d (Zak l)]), (4, .cells [.int 0, .nilS, .nilS, .nilS]), (8, .cells [.int a.1, .int a.2]), (5, .cells [.int n, .ref 905 1 0 0 0, .ref 901 2 0 (ZaT r l e).length (ZaT r l e).length, .ref 902 1 0 (Za1 r l e).length (Za1 r l e).length]), (905, .row 1 []), (901, .row 2 ((ZaT r l e).map ZaY)), (902, .row 1 ((Za1 r l e).map Zac)), (904, .row 1 ((all ++ Zal r a u).map D.int)), (903, .row 1 ((Zcm all.length a u).map D.int))]) (fun u => ZaC r a - u) 0 ?_ ?_ ?_
   ·exact Nat.zero_le _
   ·exact kN (kc5 @Zcm.eq_1 @Zal.eq_1 @List.range_zero @List.append_nil.{0} hA) [(903, 37)]
   ·intro u hu;have hcl := ZgV all.length a u;have hnl := Zf8 r a u;have htk : ((Zcm all.length a u).map D.int).take (u + 1) = (Zcm all.length a u).map D.int := List.take_of_length_le (by rw [List.length_map, hcl]; exact Nat.le_refl _);have hta : ((all ++ Zal r a u).map D.int).take (all.length + u) = (all ++ Zal r a u).map D.int := List.take_of_length_le (by rw [List.length_map, List.length_append, hnl]; exact Nat.le_refl _);rcases Nat.lt_or_ge u (ZaC r a) with hul | hul
    ·have hcs := ZnA all.length a u;have hns := ZqU r a u;have hap : all ++ Zal r a (u + 1) = (all ++ Zal r a u) ++ [at0 r a.1 + 1 + u] := by rw [hns, List.append_assoc]
     have hlu : (all ++ Zal r a u).length = all.length + u := by rw [List.length_append, hnl]
     generalize all ++ Zal r a u = G at *;generalize Zcm all.length a u = c at *;refine kw1 kO (kc6 e2 hrn hcl htk hta hlu) kc0 ?_;refine ⟨u + 1, ?_, eL [(903, 57), (904, 61)] _ _ (by refine ⟨?_, ?_⟩ <;> (repeat' first | exact fmn | refine fmc ⟨(by first | rfl | (simp (disch := omega) only [go_sem, simprocAttr, inL, hcs, hap, List.map_append, Int.natCast_add, Int.natCast_one, ← Int.add_assoc, List.length_append, hcl, hlu]; first | done | omega | (congr 1; done))), ?_⟩); done), ?_⟩
     ·omega
     ·omega
    ·have : u = ZaC r a := by omega
     subst this;have hcd : ZaB r all.length a = Zcm all.length a (ZaC r a) ++ [a.2] := rfl;have hcl2 := ZlD r all.length a;refine kw1 kP (kc4 e2 hrn hcl htk) kc0 ?_;refine Zai (fun (j : Nat) => j ≤ ZaC r a + 1) (fun j => [(1, .d (Zac r)), (2, .ptr 2 0 0 0), (4, .ptr 4 0 0 0), (5, .ptr 5 0 0 0), (6, .ref 904 1 0 (all.length + ZaC r a) (all.length + ZaC r a)), (7, .int e), (8, .ptr 8 0 0 0), (9, .ref 903 1 0 (ZaC r a + 2) (ZaC r a + 2)), (11, .int ((j : Int) + 1))]) (fun j => [(2, .cells [.int n, .d (Zak l)]), (4, .cells [.int 0, .nilS, .nilS, .nilS]), (8, .cells [.int a.1, .int a.2]), (5, .cells [.int n, .ref 905 1 0 0 0, .ref 901 2 0 (ZaT r l e ++ ZbI (ZaB r all.length a) j).length (ZaT r l e ++ ZbI (ZaB r all.length a) j).length, .ref 902 1 0 (Za1 r l e).length (Za1 r l e).length]), (905, .row 1 []), (901, .row 2 ((ZaT r l e ++ ZbI (ZaB r all.length a) j).map ZaY)), (902, .row 1 ((Za1 r l e).map Zac)), (904, .row 1 ((all ++ Zal r a (ZaC r a)).map D.int)), (903, .row 1 ((ZaB r all.length a).map D.int))]) (fun j => ZaC r a + 1 - j) 0 ?_ ?_ ?_
     ·exact Nat.zero_le _
     ·exact kN (kc5 hcd @List.map_append.{0,0} @ZbI.eq_1 @List.range_zero @List.append_nil.{0}) [(903, 66)]
     ·intro j hj;have hpl := ZmF (ZaB r all.length a) j;rcases Nat.lt_or_ge j (ZaC r a + 1) with hjl | hjl
      ·have gc1 := ZaW (r := ZaB r all.length a) (i := j) (by omega);have gc2 := ZaW (r := ZaB r all.length a) (i := j + 1) (by omega);have en : ((j : Int) + 1).toNat = j + 1 := by omega
       have hps := ZoO (ZaB r all.length a) j;have hpa : ZaY (Zgm (ZaB r all.length a) j) = .ag [.int (at0 (ZaB r all.length a) j), .int (at0 (ZaB r all.length a) ((j + 1 : Nat) : Int))] := rfl;have hap : ZaT r l e ++ ZbI (ZaB r all.length a) (j + 1) = (ZaT r l e ++ ZbI (ZaB r all.length a) j) ++ [Zgm (ZaB r all.length a) j] := by rw [hps, List.append_assoc]
       have hal2 : (ZaT r l e ++ ZbI (ZaB r all.length a) j).length ≤ 2000 := by rw [List.length_append]; omega
       try dsimp only
       generalize ZaB r all.length a = c at *;generalize hG : ZaT r l e ++ ZbI c j = G at *;refine kw1 kO (kc6 gc1 gc2 en hcl2 @Int.add_sub_cancel @Zat) kc0 ?_;refine ⟨j + 1, ?_, kN (kc8 hap @List.map_append.{0,0} @List.length_append.{0} @List.length_cons.{0} @List.length_nil.{0} hpa @Int.natCast_add @Int.natCast_one) [(901, 86)], ?_⟩
       ·omega
       ·omega
      ·have : j = ZaC r a + 1 := by omega
       subst this;have hcf : Za1 r l (e + 1) = Za1 r l e ++ [ZaB r all.length a] := by rw [Za1, Zbp, Zid, ha, hA]; rfl
       have haf : ZaT r l (e + 1) = ZaT r l e ++ ZbI (ZaB r all.length a) (ZaC r a + 1) := by rw [ZaT, Zbp, Ziz, ha, hA]; rfl
       have hcfl := Zkf r l e he;have hnl := Zf8 r a (ZaC r a);have hcd2 : ((ZaB r all.length a).map D.int).take (ZaC r a + 2) = (ZaB r all.length a).map D.int := List.take_of_length_le (by rw [List.length_map, hcl2]; exact Nat.le_refl _);have hcft : ((Za1 r l e).map Zac).take e = (Za1 r l e).map Zac := List.take_of_length_le (by rw [List.length_map, hcfl]; exact Nat.le_refl _);refine Zav _ (Zc5 903 1 ((ZaB r all.length a).map D.int) rfl (ZcR _ rfl) (by decide)) ?_;refine kw1 kO (kc5 hcl2 @List.length_map.{0,0} hcd2 hcfl @Zat) kc0 ?_;refine ⟨e + 1, ?_, kN (kc8 hcf haf hall @List.map_append.{0,0} @List.length_append.{0} @List.length_cons.{0} @List.length_nil.{0} (kc7 hnl @Int.natCast_add @Int.natCast_one hcl2 hcd2 hcfl hcft)) [(902, 92)], ?_⟩
       ·omega
       ·omega
  ·have : e = l.length := by omega
   subst this;have hal := allR_len l.length (Nat.le_refl _);have hmd : Zd5 (n, l) r = ((n : Int), if (n : Int) = 0 then [] else (List.range (Zch r (r.length - 1) + 1).toNat).map fun k => ZaX (Zaz r l l.length) k, ZaT r l l.length, Za1 r l l.length) := rfl;rw [hmd];generalize Zaz r l l.length = A at hal ⊢;generalize ZaT r l l.length = E;generalize Za1 r l l.length = C;refine kw1 kO kc0 kc0 ?_;refine Zai (fun (v : Nat) => v ≤ n) (fun v => [(1, .d (Zac r)), (2, .ptr 2 0 0 0), (4, .ptr 4 0 0 0), (5, .ptr 5 0 0 0), (6, .ref 904 1 0 A.length A.length), (12, .int (hiN r v)), (13, .int v)]) (fun v => [(2, .cells [.int n, .d (Zak l)]), (4, .cells [.int 0, .nilS, .nilS, .nilS]), (5, .cells [.int n, .ref 905 1 0 0 0, .ref 901 2 0 E.length E.length, .ref 902 1 0 C.length C.length]), (905, .row 1 ([])), (901, .row 2 (E.map ZaY)), (902, .row 1 (C.map Zac)), (904, .row 1 (A.map D.int))]) (fun v => n - v) 0 ?_ ?_ ?_
   ·exact Nat.zero_le _
   ·exact kN (kc1 @hiN.eq_1) []
   ·intro v hv;rcases Nat.lt_or_ge v n with hvn | hvn
    ·have gv := ZaW (r := r) (i := v) (by omega);refine kw1 kO (kc2 gv hrn) kc0 ?_;refine ⟨v + 1, ?_, kN (kc2 @hiN.eq_1 @Zkq) [], ?_⟩
     ·omega
     ·omega
    ·have : n = v := by omega
     subst this;obtain ⟨H, hH⟩ : ∃ H : Nat, hiN r n + 1 = H ∧ H ≤ 256 ∧ (if (n : Int) = 0 then [] else (List.range (Zch r (r.length - 1) + 1).toNat).map fun k => ZaX A k) = ZbB A H := by
      rcases Nat.eq_zero_or_pos n with h0 | h0
      ·refine ⟨0, ?_, by omega, ?_⟩
       ·rw [h0, hiN]; rfl
       ·rw [if_pos (by omega)]; rfl
      ·obtain ⟨m, rfl⟩ : ∃ m, n = m + 1 := ⟨n - 1, by omega⟩;have e1 := Zn7 (fun v => (h5 v).1) m;have e2 := Zj5 (fun j => (h5 j).2) m;have e3 := Zhc r m 0 (by omega);have e4 := h5 0;refine ⟨(Zch r m + 1).toNat, by omega, by omega, ?_⟩;rw [if_neg (by omega), hrn, Nat.add_sub_cancel];rfl
     obtain ⟨hH, hH2, hH3⟩ := hH;rw [hH3];generalize hiN r n = hi at hH ⊢;refine kw1 kO kc0 kc0 ?_;refine Zai (fun (k : Nat) => k ≤ H) (fun k => [(1, .d (Zac r)), (2, .ptr 2 0 0 0), (4, .ptr 4 0 0 0), (5, .ptr 5 0 0 0), (6, .ref 904 1 0 A.length A.length), (12, .int hi), (14, .int k)]) (fun k => [(2, .cells [.int n, .d (Zak l)]), (4, .cells [.int 0, .nilS, .nilS, .nilS]), (5, .cells [.int n, .ref 905 1 0 k k, .ref 901 2 0 E.length E.length, .ref 902 1 0 C.length C.length]), (905, .row 1 ((ZbB A k).map Zac)), (901, .row 2 (E.map ZaY)), (902, .row 1 (C.map Zac)), (904, .row 1 (A.map D.int))]) (fun k => H - k) 0 ?_ ?_ ?_
     ·exact Nat.zero_le _
     ·exact kN (kc3 @ZbB.eq_1 @List.range_zero @List.map_nil.{0,0}) []
     ·intro k hk;rcases Nat.lt_or_ge k H with hkH | hkH
      ·have hlk := Zlb A k;refine kw1 kO kc0 kc0 ?_;refine Zav _ (ZdU 15 906 1 rfl rfl) ?_;refine Zai (fun (i : Nat) => i ≤ A.length) (fun i => [(1, .d (Zac r)), (2, .ptr 2 0 0 0), (4, .ptr 4 0 0 0), (5, .ptr 5 0 0 0), (6, .ref 904 1 0 A.length A.length), (12, .int hi), (14, .int k), (15, .ref 906 1 0 (ZaX (A.take i) k).length (ZaX (A.take i) k).length), (16, .int i)]) (fun i => [(2, .cells [.int n, .d (Zak l)]), (4, .cells [.int 0, .nilS, .nilS, .nilS]), (5, .cells [.int n, .ref 905 1 0 k k, .ref 901 2 0 E.length E.length, .ref 902 1 0 C.length C.length]), (905, .row 1 ((ZbB A k).map Zac)), (901, .row 2 (E.map ZaY)), (902, .row 1 (C.map Zac)), (904, .row 1 (A.map D.int)), (906, .row 1 ((ZaX (A.take i) k).map D.int))]) (fun i => A.length - i) 0 ?_ ?_ ?_
       ·exact Nat.zero_le _
       ·exact kN (kc6 @ZaX.eq_1 @List.take_zero.{0} @List.range_zero @List.length_nil.{0} @List.filter_nil.{0} @List.map_nil.{0,0}) []
       ·intro i hi2;have hll := Zl0 (A.take i) k;rw [List.length_take] at hll;rcases Nat.lt_or_ge i A.length with hiA | hiA
        ·have gi := ZaW hiA;have hst : ZaX (A.take (i + 1)) k = if at0 A i = k then ZaX (A.take i) k ++ [(i : Int)] else ZaX (A.take i) k := by
          rw [ZaD gi, ZmL, List.length_take, Nat.min_eq_left (by omega)]
         generalize ZaX (A.take i) k = L at hst hll ⊢;by_cases hx : at0 A i = k
         ·rw [if_pos hx] at hst;refine kw1 kO (kc3 gi hx @Zat) kc0 ?_;refine ⟨i + 1, ?_, kN (kc5 hst @List.map_append.{0,0} @List.length_append.{0} @List.length_cons.{0} @List.length_nil.{0}) [(906, 126)], ?_⟩
          ·omega
          ·omega
         ·rw [if_neg hx] at hst;refine kw1 kO (kc2 gi @Zat) kc0 ?_;refine ⟨i + 1, ?_, kN (kc1 hst) [], ?_⟩
          ·omega
          ·omega
        ·have : i = A.length := by omega
         subst this;have hAA : A.take A.length = A := List.take_length;rw [hAA] at hll;have hls := Zu1 A k;have hlt : ((ZbB A k).map Zac).take k = (ZbB A k).map Zac := List.take_of_length_le (by rw [List.length_map, hlk]; exact Nat.le_refl _)
         try dsimp only
         rw [hAA];refine Zav _ (Zc5 906 1 ((ZaX A k).map D.int) rfl (ZcR _ rfl) (by decide)) ?_;refine kw1 kO (kc3 @List.length_map.{0,0} hlk @Zat) kc0 ?_;refine ⟨k + 1, ?_, kN (kc8 hls @List.map_append.{0,0} @List.length_append.{0} @List.length_cons.{0} @List.length_nil.{0} hlk hlt (kc2 @Int.natCast_add @Int.natCast_one)) [(905, 131)], ?_⟩
         ·omega
         ·omega
      ·have : k = H := by omega
       subst this;have hlk := Zlb A k;refine kw1 kO kc0 kc0 ?_;have hlt : ((ZbB A k).map Zac).take k = (ZbB A k).map Zac := List.take_of_length_le (by rw [List.length_map, hlk]; exact Nat.le_refl _);refine ⟨_, _, _, _, rfl, ?_⟩;simp (disch := omega) only [go_sem, simprocAttr, toD, hlk, hlt, Zat]
theorem Zyk (g : Gr) (r : List Int) (h : gOk g = false ∨ (r.length : Int) ≠ g.1) : Zaa Tryz.prog 55 [gD g, Zac r] (.tup [lvD lv0, .int 1]) := by
 have hv := Zh5 g;rcases h1 : gOk g with _ | _ <;> rw [h1] at hv
 ·refine kE Tryz.func55 ?_;intro hat B X w0;refine kw1 kO kc0 (kc1 hv) ?_
  all_goals
   refine ⟨_, rfl, ⟨_, _, _, _, rfl, ?_⟩, Zah ?_, trivial⟩
   ·simp (disch := omega) only [go_sem, simprocAttr, toD];rfl
   ·rfl
 ·have h2 : (r.length : Int) ≠ g.1 := by
   rcases h with h | h
   ·rw [h1] at h; exact absurd h (by decide)
   ·exact h
  refine kE Tryz.func55 ?_;intro hat B X w0;have hl := Zbi 1 hat rfl;rw [List.length_map] at hl;refine kw1 kO (kc1 h2) (kc1 hv) ?_
  all_goals
   refine ⟨_, rfl, ⟨_, _, _, _, rfl, ?_⟩, Zah ?_, trivial⟩
   ·simp (disch := omega) only [go_sem, simprocAttr, toD];rfl
   ·rfl
theorem Zt2 (g : Gr) (r : List Int) (h1 : gOk g = true) (h2 : (r.length : Int) = g.1) : Zaa Tryz.prog 55 [gD g, Zac r] (.tup [lvD (ZaI g r).1, .int (ZaI g r).2]) := by
 have hv := Zh5 g;obtain ⟨g1, g2, g3, g4⟩ := ZhR h1;have hbf : ZaI g r = if r.any ZcG then (lv0, 1) else if g.2.any Zc6 then (lv0, 8) else if g.2.any (Zco r) then (lv0, 3) else if 512 < g.1 + Za0 r g.2 g.2.length then (lv0, 2) else (Zd5 g r, 0) := by
  rw [ZaI, Zdr, h1];cases r.any ZcG <;> simp [h2]
 rw [h1] at hv;obtain ⟨m, l⟩ := g;dsimp only at g1 g2 g3 g4 h2 hbf;obtain ⟨n, rfl⟩ : ∃ n : Nat, m = n := ⟨m.toNat, by omega⟩;have hrn : r.length = n := by omega
 refine kE Tryz.func55 ?_;intro hat B X w0;refine kw1 kO (kc1 hrn) (kc1 hv) ?_;refine Zai (fun (k : Nat) => k ≤ n ∧ ∀ (j : Nat) y, j < k → r[j]? = some y → ZcG y = false) (fun k => [(1, .d (Zac r)), (2, .ptr 2 0 0 0), (4, .ptr 4 0 0 0), (6, .int k)]) (fun k => [(2, .cells [.int n, .d (Zak l)]), (4, .cells [.int 0, .nilS, .nilS, .nilS])]) (fun k => n - k) 0 ?_ ?_ ?_
 ·exact ⟨Nat.zero_le _, fun j y h => by omega⟩
 ·exact kN kc0 []
 ·rintro k ⟨hk, hinv⟩;rcases Nat.lt_or_ge k n with hlt | hge
  ·have gk := ZaW (r := r) (i := k) (by omega);rcases hrb : ZcG (at0 r k) with _ | _
   ·have hb : 0 ≤ at0 r k ∧ at0 r k ≤ 255 := by
     simp only [ZcG, decide_eq_false_iff_not] at hrb;omega
    refine kw1 kO (kc2 gk hrn) kc0 ?_;refine ⟨k + 1, ?_, kN kc0 [], ?_⟩
    ·exact ⟨by omega, ZbL hinv gk hrb⟩
    ·omega
   ·have hany : r.any ZcG = true := Zc7 gk hrb;rw [hbf, if_pos hany];simp only [ZcG, decide_eq_true_eq] at hrb;refine kw kO (kc2 gk hrn) kc0 ?_
    repeat' first | exact True.intro | refine Bn.mk ?_ ?_ | intro hc
    all_goals
     refine ⟨_, rfl, ⟨_, _, _, _, rfl, ?_⟩, Zah ?_, trivial⟩
     ·simp (disch := omega) only [go_sem, simprocAttr, toD];rfl
     ·rfl
  ·have : n = k := by omega
   subst this;have hany : r.any ZcG = false := ZdI fun j y hj => hinv j y (by omega)
   have hrk : Zdr ((n : Int), l) r = true := by simp [Zdr, h1, hrn, hany]
   obtain ⟨_, _, _, h5⟩ := ZjG hrk;have hsum := ZkC (r := r) (l := l) h5 (fun k a ha => by have := g4 k a ha; omega);rw [hany] at hbf;simp only [Bool.false_eq_true, if_false] at hbf;refine kw1 kO kc0 kc0 ?_;refine Zai (fun (k : Nat) => k ≤ l.length ∧ ∀ (j : Nat) y, j < k → l[j]? = some y → Zc6 y = false) (fun k => [(1, .d (Zac r)), (2, .ptr 2 0 0 0), (4, .ptr 4 0 0 0), (7, .int k)]) (fun k => [(2, .cells [.int n, .d (Zak l)]), (4, .cells [.int 0, .nilS, .nilS, .nilS])]) (fun k => l.length - k) 0 ?_ ?_ ?_
   ·exact ⟨Nat.zero_le _, fun j y h => by omega⟩
   ·exact kN kc0 []
   ·rintro k ⟨hk, hinv⟩;rcases Nat.lt_or_ge k l.length with hlt | hge
    ·obtain ⟨a, ha⟩ := Zad hlt;rcases hlf : Zc6 a with _ | _
     ·have hne : ¬ a.1 = a.2 := by simpa [Zc6] using hlf
      refine kw1 kO (kc1 ha) kc0 ?_;refine ⟨k + 1, ?_, kN kc0 [], ?_⟩
      ·exact ⟨by omega, ZbL hinv ha hlf⟩
      ·omega
     ·have hany : l.any Zc6 = true := Zc7 ha hlf;have hne : a.1 = a.2 := by simpa [Zc6] using hlf
      rw [hbf, if_pos hany];refine kw1 kO (kc1 ha) kc0 ?_;refine ⟨_, rfl, ⟨_, _, _, _, rfl, ?_⟩, Zah ?_, trivial⟩
      ·simp (disch := omega) only [go_sem, simprocAttr, toD];rfl
      ·rfl
    ·have : k = l.length := by omega
     subst this;have hany : l.any Zc6 = false := ZdI fun j y hj => hinv j y (by omega)
     rw [hany] at hbf;simp only [Bool.false_eq_true, if_false] at hbf;refine kw1 kO kc0 kc0 ?_;refine Zai (fun (k : Nat) => k ≤ l.length ∧ ∀ (j : Nat) y, j < k → l[j]? = some y → Zco r y = false) (fun k => [(1, .d (Zac r)), (2, .ptr 2 0 0 0), (4, .ptr 4 0 0 0), (8, .int (n + Za0 r l k)), (9, .int k)]) (fun k => [(2, .cells [.int n, .d (Zak l)]), (4, .cells [.int 0, .nilS, .nilS, .nilS])]) (fun k => l.length - k) 0 ?_ ?_ ?_
     ·exact ⟨Nat.zero_le _, fun j y h => by omega⟩
     ·exact kN (kc2 @Za0.eq_1 @Int.add_zero) []
     ·rintro k ⟨hk, hinv⟩;have hsk := hsum k;rcases Nat.lt_or_ge k l.length with hlt | hge
      ·obtain ⟨a, ha⟩ := Zad hlt;have hai := g4 k a ha;have e1 := Zey (r := r) (v := a.1) hai.1 (by omega);have e2 := Zey (r := r) (v := a.2) hai.2.2.1 (by omega);have f1 := h5 a.1.toNat;have f2 := h5 a.2.toNat;rw [show ((a.1.toNat : Nat) : Int) = a.1 by omega] at f1;rw [show ((a.2.toNat : Nat) : Int) = a.2 by omega] at f2;have hss : Za0 r l (k + 1) = Za0 r l k + (at0 r a.2 - at0 r a.1 - 1) := by rw [Za0, ha]
       rcases hup : Zco r a with _ | _
       ·have hup2 := hup;rw [Zco, decide_eq_false_iff_not] at hup2;refine kw1 kO (kc4 ha e1 e2 hrn) kc0 ?_;refine ⟨k + 1, ?_, kN (kc2 hss @Int.add_assoc) [], ?_⟩
        ·exact ⟨by omega, ZbL hinv ha hup⟩
        ·omega
       ·have hany : l.any (Zco r) = true := Zc7 ha hup;rw [Zco, decide_eq_true_eq] at hup;rw [hbf, if_pos hany];refine kw1 kO (kc4 ha e1 e2 hrn) kc0 ?_;refine ⟨_, rfl, ⟨_, _, _, _, rfl, ?_⟩, Zah ?_, trivial⟩
        ·simp (disch := omega) only [go_sem, simprocAttr, toD];rfl
        ·rfl
      ·have : k = l.length := by omega
       subst this;have hany : l.any (Zco r) = false := ZdI fun j y hj => hinv j y (by omega)
       rw [hbf, if_neg (by rw [hany]; decide)];by_cases hbig : 512 < (n : Int) + Za0 r l l.length
       ·rw [if_pos hbig];refine kw1 kO kc0 kc0 ?_;refine ⟨_, rfl, ⟨_, _, _, _, rfl, ?_⟩, Zah ?_, trivial⟩
        ·simp (disch := omega) only [go_sem, simprocAttr, toD];rfl
        ·rfl
       ·rw [if_neg hbig];have hgap : ∀ (k : Nat) a, l[k]? = some a → 0 ≤ at0 r a.2 - at0 r a.1 - 1 := fun k a ha => by
         have := List.any_eq_false.1 hany a (List.mem_of_getElem? ha);rw [Zco, decide_eq_true_eq] at this; omega
        have hm := Zu4 n l r hrn (by omega) g3 g4 h5 hgap (by omega);refine kw1 kO kc0 (kc1 hm) ?_;refine ⟨_, rfl, ⟨_, _, _, _, rfl, ?_⟩, Zah ?_, trivial⟩
        ·simp (disch := omega) only [go_sem, simprocAttr, toD]
        ·rfl
theorem Zzf (g : Gr) (r : List Int) : Zaa Tryz.prog 55 [gD g, Zac r] (.tup [lvD (ZaI g r).1, .int (ZaI g r).2]) := by
 by_cases h : gOk g = true ∧ (r.length : Int) = g.1
 ·exact Zt2 g r h.1 h.2
 ·have hr : Zdr g r = false := by
   rw [Zdr];rcases h1 : gOk g with _ | _
   ·simp
   ·have h2 : ¬ (r.length : Int) = g.1 := fun h2 => h ⟨h1, h2⟩
    simp [h2]
  have e : ZaI g r = (lv0, 1) := by rw [ZaI, if_pos hr]
  rw [e];refine Zyk g r ?_;rcases h1 : gOk g with _ | _
  ·exact .inl rfl
  ·exact .inr fun h2 => h ⟨h1, h2⟩
theorem ZtJ (l m : List Int) : Zaa Tryz.prog 140 [Zac l, Zac m] (.bool (decide (l = m))) := by
 refine kE Tryz.func140 ?_;intro hat B X w0;have hl := Zbi 0 hat rfl;have hm := Zbi 1 hat rfl;rw [List.length_map] at hl hm;by_cases hlm : l.length = m.length
 ·refine kw1 kO kc0 kc0 ?_;refine Zai (fun (k : Nat) => k ≤ l.length ∧ l.take k = m.take k) (fun k => [(0, .d (Zac l)), (1, .d (Zac m)), (5, .int k)]) (fun k => []) (fun k => l.length - k) 0 ?_ ?_ ?_
  ·exact ⟨Nat.zero_le _, rfl⟩
  ·exact kN kc0 []
  ·rintro k ⟨hk, hinv⟩;rcases Nat.lt_or_ge k l.length with hlt | hge
   ·obtain ⟨p, hp⟩ := Zad hlt;obtain ⟨q, hq⟩ := Zad (hlm ▸ hlt);refine kw kO (kc2 hp hq) kc0 ?_
    repeat' first | exact True.intro | refine Bn.mk ?_ ?_ | intro hc
    ·refine Zaj ?_;rw [decide_eq_false (Zf5 hp hq hc)]
    ·refine ⟨k + 1, ?_, eL [] _ _ (by refine ⟨?_, ?_⟩ <;> (repeat' first | exact fmn | refine fmc ⟨(by first | rfl | (simp (disch := omega) only [go_sem, simprocAttr, inL]; first | done | omega | (congr 1; done))), ?_⟩); done), ?_⟩
     ·exact ⟨by omega, by rw [ZaD hp, ZaD hq, hinv, hc]⟩
     ·omega
   ·refine kw1 kO kc0 kc0 ?_;refine Zaj ?_;rw [List.take_of_length_le hge, List.take_of_length_le (by omega)] at hinv;simp [hinv]
 ·refine kw1 kO kc0 kc0 ?_;refine Zaj ?_;rw [decide_eq_false];rintro rfl; exact hlm rfl
theorem ZnN (l m : List (List Int)) : Zaa Tryz.prog 83 [Zae l, Zae m] (.bool (decide (l = m))) := by
 refine kE Tryz.func83 ?_;intro hat B X w0;have hl := Zbi 0 hat rfl;have hm := Zbi 1 hat rfl;rw [List.length_map] at hl hm;by_cases hlm : l.length = m.length
 ·refine kw1 kO kc0 kc0 ?_;refine Zai (fun (k : Nat) => k ≤ l.length ∧ l.take k = m.take k) (fun k => [(0, .d (Zae l)), (1, .d (Zae m)), (5, .int k)]) (fun k => []) (fun k => l.length - k) 0 ?_ ?_ ?_
  ·exact ⟨Nat.zero_le _, rfl⟩
  ·exact kN kc0 []
  ·rintro k ⟨hk, hinv⟩;rcases Nat.lt_or_ge k l.length with hlt | hge
   ·obtain ⟨p, hp⟩ := Zad hlt;obtain ⟨q, hq⟩ := Zad (hlm ▸ hlt);have he := ZtJ p q;by_cases hpq : p = q
    ·rw [decide_eq_true hpq] at he;refine kw1 kO (kc2 hp hq) (kc1 he) ?_;refine ⟨k + 1, ?_, kN kc0 [], ?_⟩
     ·exact ⟨by omega, by rw [ZaD hp, ZaD hq, hinv, hpq]⟩
     ·omega
    ·rw [decide_eq_false hpq] at he;refine kw1 kO (kc2 hp hq) (kc1 he) ?_;refine Zaj ?_;rw [decide_eq_false (Zf5 hp hq hpq)]
   ·refine kw1 kO kc0 kc0 ?_;refine Zaj ?_;rw [List.take_of_length_le hge, List.take_of_length_le (by omega)] at hinv;simp [hinv]
 ·refine kw1 kO kc0 kc0 ?_;refine Zaj ?_;rw [decide_eq_false];rintro rfl; exact hlm rfl
theorem Zok (l m : List (List Int)) : Zaa Tryz.prog 171 [Zae l, Zae m] (.bool (decide (l = m))) := by
 have h := Zvs l m;refine kE Tryz.func171 ?_;intro hat B X w0;refine kw1 kO kc0 (kc1 h) ?_;exact Zaj rfl
def Zew (a b : Lv) : Bool := decide (a.1 = b.1) && decide (a.2.1 = b.2.1) && decide (a.2.2.1 = b.2.2.1) && decide (a.2.2.2 = b.2.2.2)
theorem Zj6 {a b : Lv} : Zew a b = true ↔ a = b := by
 obtain ⟨a1, a2, a3, a4⟩ := a;obtain ⟨b1, b2, b3, b4⟩ := b;simp [Zew, Prod.ext_iff, and_assoc]
theorem Zt5 (a b : Lv) : Zaa Tryz.prog 107 [lvD a, lvD b] (.bool (Zew a b)) := by
 have h1 := Zok a.2.1 b.2.1;have h2 := ZrT a.2.2.1 b.2.2.1;have h3 := Zok a.2.2.2 b.2.2.2;rw [Zew];by_cases e : a.1 = b.1
 ·rw [decide_eq_true e];rcases e1 : decide (a.2.1 = b.2.1) with _ | _ <;> rw [e1] at h1 <;> rcases e2 : decide (a.2.2.1 = b.2.2.1) with _ | _ <;> rw [e2] at h2 <;> rcases e3 : decide (a.2.2.2 = b.2.2.2) with _ | _ <;> rw [e3] at h3
  all_goals
   refine kE Tryz.func107 ?_;intro hat B X w0;refine kw1 kO (kc1 e) (kc3 h1 h2 h3) ?_;exact Zaj rfl
 ·rw [decide_eq_false e];refine kE Tryz.func107 ?_;intro hat B X w0;refine kw1 kO (kc1 e) (kc3 h1 h2 h3) ?_;exact Zaj rfl
theorem Zz9 (a b : Lv) : Zaa Tryz.prog 35 [lvD a, lvD b] (.bool (Zew a b)) := by
 have h1 := ZnN a.2.1 b.2.1;have h3 := ZnN a.2.2.2 b.2.2.2;obtain ⟨a1, a2, a3, a4⟩ := a;obtain ⟨b1, b2, b3, b4⟩ := b;dsimp only [Zew] at *;have fl : ∀ x : Bool, x = false → Zaa Tryz.prog 35 [lvD (a1, a2, a3, a4), lvD (b1, b2, b3, b4)] (.bool false) → Zaa Tryz.prog 35 [lvD (a1, a2, a3, a4), lvD (b1, b2, b3, b4)] (.bool x) := fun x hx h => hx ▸ h
 by_cases e : a1 = b1 ∧ a3.length = b3.length
 ·obtain ⟨rfl, e2⟩ := e;rcases e1 : decide (a2 = b2) with _ | _
  ·rw [e1] at h1;refine fl _ (by simp) ?_;refine kE Tryz.func35 ?_;intro hat B X w0;have hla := Zb8 0 2 hat rfl rfl;have hlb := Zb8 1 2 hat rfl rfl;rw [List.length_map] at hla hlb;dsimp only at hla hlb;refine kw1 kO (kc1 e2) (kc2 h1 h3) ?_;exact Zaj rfl
  ·rw [e1] at h1;rcases e4 : decide (a4 = b4) with _ | _
   ·rw [e4] at h3;refine fl _ (by simp) ?_;refine kE Tryz.func35 ?_;intro hat B X w0;have hla := Zb8 0 2 hat rfl rfl;have hlb := Zb8 1 2 hat rfl rfl;rw [List.length_map] at hla hlb;dsimp only at hla hlb;refine kw1 kO (kc1 e2) (kc2 h1 h3) ?_;exact Zaj rfl
   ·rw [e4] at h3;have er : (decide (a1 = a1) && true && decide (a3 = b3) && true) = decide (a3 = b3) := by simp
    rw [er];refine kE Tryz.func35 ?_;intro hat B X w0;have hla := Zb8 0 2 hat rfl rfl;have hlb := Zb8 1 2 hat rfl rfl;rw [List.length_map] at hla hlb;dsimp only at hla hlb;refine kw1 kO (kc1 e2) (kc2 h1 h3) ?_;refine Zai (fun (k : Nat) => k ≤ a3.length ∧ a3.take k = b3.take k) (fun k => [(2, .ptr 2 0 0 0), (3, .ptr 3 0 0 0), (5, .int k)]) (fun k => [(2, .cells [.int a1, .d (Zae a2), .d (Zak a3), .d (Zae a4)]), (3, .cells [.int a1, .d (Zae b2), .d (Zak b3), .d (Zae b4)])]) (fun k => a3.length - k) 0 ?_ ?_ ?_
    ·exact ⟨Nat.zero_le _, rfl⟩
    ·exact kN kc0 []
    ·rintro k ⟨hk, hinv⟩;rcases Nat.lt_or_ge k a3.length with hlt | hge
     ·obtain ⟨p, hp⟩ := Zad hlt;obtain ⟨q, hq⟩ := Zad (e2 ▸ hlt);refine kw kO (kc3 hp hq @ZnO) kc0 ?_
      repeat' first | exact True.intro | refine Bn.mk ?_ ?_ | intro hc
      ·refine Zaj ?_;rw [decide_eq_false (Zf5 hp hq hc)]
      ·refine ⟨k + 1, ?_, eL [] _ _ (by refine ⟨?_, ?_⟩ <;> (repeat' first | exact fmn | refine fmc ⟨(by first | rfl | (simp (disch := omega) only [go_sem, simprocAttr, inL]; first | done | omega | (congr 1; done))), ?_⟩); done), ?_⟩
       ·exact ⟨by omega, by rw [ZaD hp, ZaD hq, hinv, hc]⟩
       ·omega
     ·refine kw1 kO kc0 kc0 ?_;refine Zaj ?_;rw [List.take_of_length_le hge, List.take_of_length_le (by omega)] at hinv;simp [hinv]
 ·refine fl _ ?_ ?_
  ·rcases Decidable.em (a1 = b1) with h | h
   ·have h2 : ¬ a3 = b3 := fun h2 => e ⟨h, by rw [h2]⟩
    simp [h2]
   ·simp [h]
  ·refine kE Tryz.func35 ?_;intro hat B X w0;have hla := Zb8 0 2 hat rfl rfl;have hlb := Zb8 1 2 hat rfl rfl;rw [List.length_map] at hla hlb;dsimp only at hla hlb;by_cases h : a1 = b1
   ·have h2 : ¬ a3.length = b3.length := fun h2 => e ⟨h, h2⟩
    refine kw1 kO (kc1 h) (kc2 h1 h3) ?_;exact Zaj rfl
   ·refine kw1 kO (kc1 h) (kc2 h1 h3) ?_;exact Zaj rfl
def ZaQ (ls : List (List Int)) (v : Int) : Int := ZcH (ls.findIdx? fun y => y.any fun x => decide (x = v))
def ZlC (ls : List (List Int)) (v : Int) : Int := match ls.findIdx? (fun y => y.any fun x => decide (x = v)) with
 | some k => placeF ((ls[k]?).getD []) v
 | none => -1
theorem Zp0 (l : List Int) (v : Int) : decide (0 ≤ placeF l v) = l.any fun x => decide (x = v) := ZgG _ l
theorem Zke (a : Lv) (v : Int) : Zaa Tryz.prog 106 [lvD a, .int v] (.tup [.int (ZaQ a.2.1 v), .int (ZlC a.2.1 v)]) := by
 obtain ⟨n, ls, ar, cs⟩ := a;refine kE Tryz.func106 ?_;intro hat B X w0;have hl := Zb8 0 1 hat rfl rfl;rw [List.length_map] at hl;dsimp only at hl;refine kw1 kO kc0 kc0 ?_;refine Zai (fun (k : Nat) => k ≤ ls.length ∧ ∀ (j : Nat) y, j < k → ls[j]? = some y → (y.any fun x => decide (x = v)) = false) (fun k => [(1, .int v), (2, .ptr 2 0 0 0), (10, .d (Zae ls)), (11, .int ls.length), (12, .int k)]) (fun k => [(2, .cells [.int n, .d (Zae ls), .d (Zak ar), .d (Zae cs)])]) (fun k => ls.length - k) 0 ?_ ?_ ?_
 ·exact ⟨Nat.zero_le _, fun j y h => by omega⟩
 ·exact kN kc0 []
 ·rintro k ⟨hk, hinv⟩;rcases Nat.lt_or_ge k ls.length with hlt | hge
  ·obtain ⟨p, hp⟩ := Zad hlt;have hix := ZjY p v;have hpi := Zp0 p v;by_cases h0 : 0 ≤ placeF p v
   ·rw [decide_eq_true h0] at hpi;have hf : ls.findIdx? (fun y => y.any fun x => decide (x = v)) = some k := Zel hp hpi.symm hinv;refine kw1 kO (kc1 hp) (kc1 hix) ?_;refine ⟨_, rfl, Zah ?_, Zah ?_, trivial⟩
    ·dsimp only [ZaQ]; rw [hf]; rfl
    ·dsimp only [ZlC]; rw [hf]; dsimp only; rw [hp]; rfl
   ·rw [decide_eq_false h0] at hpi;refine kw1 kO (kc1 hp) (kc1 hix) ?_;refine ⟨k + 1, ?_, kN kc0 [], ?_⟩
    ·exact ⟨by omega, ZbL hinv hp hpi.symm⟩
    ·omega
  ·have hf : ls.findIdx? (fun y => y.any fun x => decide (x = v)) = none := ZeX fun j y hy => hinv j y (by have := (List.getElem?_eq_some_iff.1 hy).1; omega) hy
   refine kw1 kO kc0 kc0 ?_;refine ⟨_, rfl, Zah ?_, Zah ?_, trivial⟩
   ·dsimp only [ZaQ]; rw [hf]; rfl
   ·dsimp only [ZlC]; rw [hf]
def ZcA (a : Lv) : Lv := (a.1, a.2.1.map ZaG, a.2.2.1, a.2.2.2)
theorem ZtF (a : Lv) (hn : a.2.1.length ≤ 1000) (hl : ∀ y, y ∈ a.2.1 → y.length * 8 ≤ 140737488351232) : Zaa Tryz.prog 108 [lvD a] (lvD (ZcA a)) := by
 obtain ⟨n, ls, ar, cs⟩ := a;dsimp only at hn hl;refine kE Tryz.func108 ?_;intro hat B X w0;refine kw1 kO kc0 kc0 ?_;refine Zav _ (ZqD 9 ls.length rfl) ?_;refine Zai (fun (k : Nat) => k ≤ ls.length) (fun k => [(1, .ptr 1 0 0 0), (2, .ptr 2 0 0 0), (3, .ref 9 1 0 ls.length ls.length), (11, .d (Zae ls)), (12, .int ls.length), (13, .int k)]) (fun k => [(1, .cells [.int n, .d (Zae ls), .d (Zak ar), .d (Zae cs)]), (2, .cells [.int 0, .nilS, .nilS, .nilS]), (9, .row 1 (((ls.map ZaG).take k).map Zac ++ List.replicate (ls.length - k) (.sl [])))]) (fun k => ls.length - k) 0 ?_ ?_ ?_
 ·exact Nat.zero_le _
 ·exact kN (kc4 @List.take_zero.{0} @List.map_nil.{0,0} @List.nil_append.{0} @Nat.sub_zero) []
 ·intro k hk;rcases Nat.lt_or_ge k ls.length with hlt | hge
  ·obtain ⟨p, hp⟩ := Zad hlt;have hpl := hl p (List.mem_of_getElem? hp);have hv := ZkO p;have hs := ZlU p (by omega);have hm : (ls.map ZaG)[k]? = some (ZaG p) := by rw [List.getElem?_map, hp]; rfl
   have hst : (((ls.map ZaG).take k).map Zac ++ List.replicate (ls.length - k) (D.sl [])).set k (Zac (ZaG p)) = ((ls.map ZaG).take (k + 1)).map Zac ++ List.replicate (ls.length - (k + 1)) (D.sl []) := by
    have hlk : (((ls.map ZaG).take k).map Zac).length = k := by rw [List.length_map, List.length_take, List.length_map]; omega
    have e : ls.length - k = (ls.length - (k + 1)) + 1 := by omega
    rw [List.set_append, hlk, if_neg (by omega), Nat.sub_self, e, List.replicate_succ, List.set_cons_zero, ZaD hm, List.map_append, List.append_assoc];rfl
   have hLn : (((ls.map ZaG).take k).map Zac ++ List.replicate (ls.length - k) (D.sl [])).length = ls.length := by
    rw [List.length_append, List.length_map, List.length_take, List.length_map, List.length_replicate]; omega
   have hgk : (((ls.map ZaG).take k).map Zac ++ List.replicate (ls.length - k) (D.sl []))[k]? = some (D.sl []) := by
    rw [List.getElem?_append_right (by rw [List.length_map, List.length_take, List.length_map]; omega), List.length_map, List.length_take, List.length_map, Nat.min_eq_left (by omega), Nat.sub_self, List.getElem?_replicate, if_pos (by omega)]
   refine kw1 kO (kc3 hp hLn hgk) (kc2 hv hs) ?_;refine ⟨k + 1, ?_, kN (kc1 hst) [], ?_⟩
   ·omega
   ·omega
  ·have : k = ls.length := by omega
   subst this;have htl : ((ls.map ZaG).take ls.length) = ls.map ZaG := List.take_of_length_le (by rw [List.length_map]; exact Nat.le_refl _)
   try dsimp only
   rw [htl, Nat.sub_self];refine kw1 kO kc0 kc0 ?_;refine ⟨_, _, _, _, rfl, ?_⟩;simp (disch := omega) only [go_sem, simprocAttr, toD, List.replicate_zero, List.append_nil, List.length_map, List.take_of_length_le];rw [List.take_of_length_le (by rw [List.length_map, List.length_map]; exact Nat.le_refl _)];rfl
def Zcj (o : List Int) (x : Int) : Nat → Nat
 | 0 => 0
 | k + 1 => if x < at0 o k then Zcj o x k else k + 1
theorem ZmK (o : List Int) (x : Int) : ∀ k, Zcj o x k ≤ k
 | 0 => Nat.le_refl _
 | k + 1 => by rw [Zcj]; have := ZmK o x k; split <;> omega
def ZdS (o : List Int) (x : Int) : List Int := o.take (Zcj o x o.length) ++ [x] ++ o.drop (Zcj o x o.length)
theorem Zx9 (o : List Int) (x : Int) : (ZdS o x).length = o.length + 1 := by
 have := ZmK o x o.length;simp only [ZdS, List.length_append, List.length_take, List.length_drop, List.length_cons, List.length_nil];omega
def Zc2 (l : List Int) : Nat → List Int
 | 0 => []
 | k + 1 => ZdS (Zc2 l k) (at0 l k)
theorem ZoR (l : List Int) : ∀ k, (Zc2 l k).length = k
 | 0 => rfl
 | k + 1 => by rw [Zc2, Zx9, ZoR l k]
theorem ZoU (r : List Int) (k : Nat) : ∀ d, d ∈ (List.map D.int r).take k → d.cells.length = 1 := fun d hd => Zec r d (List.mem_of_mem_take hd)
theorem Zpj (r : List Int) (k : Nat) : ∀ d, d ∈ (List.map D.int r).drop k → d.cells.length = 1 := fun d hd => Zec r d (List.mem_of_mem_drop hd)
theorem ZrE (r : List Int) (k j : Nat) : ∀ d, d ∈ ((List.map D.int r).drop k).take j → d.cells.length = 1 := fun d hd => Zec r d (List.mem_of_mem_drop (List.mem_of_mem_take hd))
theorem Zr5 (l : List Int) (hl : l.length ≤ 1000) : Zaa Tryz.prog 114 [Zac l] (Zac (Zc2 l l.length)) := by
 refine kE Tryz.func114 ?_;intro hat B X w0;refine kw1 kO kc0 kc0 ?_;refine Zav _ (ZdU 3 900 1 rfl rfl) ?_;refine Zai (fun (i : Nat) => i ≤ l.length) (fun i => [(0, .d (Zac l)), (3, .ref 900 1 0 i i), (4, .int i)]) (fun i => [(900, .row 1 ((Zc2 l i).map D.int))]) (fun i => l.length - i) 0 ?_ ?_ ?_
 ·exact Nat.zero_le _
 ·exact kN (kc2 @Zc2.eq_1 @List.map_nil.{0,0}) []
 ·intro i hi;have hil := ZoR l i;rcases Nat.lt_or_ge i l.length with hlt | hge
  ·have gi := ZaW hlt;have his : Zc2 l (i + 1) = ZdS (Zc2 l i) (at0 l i) := rfl;generalize at0 l i = x at gi his;generalize hO : Zc2 l i = O at hil his ⊢;refine kw1 kO kc0 kc0 ?_;refine Zai (fun (k : Nat) => k ≤ i ∧ Zcj O x k = Zcj O x i) (fun k => [(0, .d (Zac l)), (3, .ref 900 1 0 i i), (4, .int i), (5, .int k)]) (fun k => [(900, .row 1 (O.map D.int))]) (fun k => k) i ?_ ?_ ?_
   ·exact ⟨Nat.le_refl _, rfl⟩
   ·exact kN kc0 []
   ·rintro k ⟨hk, hinv⟩;rcases Nat.eq_zero_or_pos k with h0 | h0
    ·subst h0;have en : ((0 : Nat) : Int).toNat = 0 := rfl;have hmn : min 0 i = 0 := by omega
     have htO : List.take i (List.map D.int O) = List.map D.int O := List.take_of_length_le (by rw [List.length_map]; omega);have htl : (List.map D.int O).length = i := by rw [List.length_map, hil]
     repeat' first | refine ZaK rfl ?_ | refine ZaF ?_ | refine Zci (Nat.beq 31) Zbr ?_ | (refine ZaM rfl rfl (fun hc => ?_) (fun hc => ?_) <;> try simp only [hcL] at hc) | (refine ZaL _ rfl rfl (fun hc => ?_) (fun hc => ?_) <;> (try simp only [hcL] at hc) <;> try omega) | simp (disch := omega) only [go_sem, simprocAttr, gi, en, roomy, hk, hil, List.drop_zero, List.nil_append, Nat.sub_zero, List.take_take, Nat.min_self, hmn, htO, htl] | (first | exact Zec _ | exact ZoU _ _ | exact Zpj _ _ | exact ZrE _ _ _) | apply And.intro | omega | decide +kernel
     have hins : ZdS O x = x :: O := by rw [ZdS, hil, ← hinv]; simp [Zcj]
     refine ⟨i + 1, ?_, kN (kc3 his hins @List.map_cons.{0,0}) [(900, 47)], ?_⟩
     ·omega
     ·omega
    ·obtain ⟨k, rfl⟩ : ∃ m, k = m + 1 := ⟨k - 1, by omega⟩;have gk := ZaW (r := O) (i := k) (by omega);have ek : (((k + 1 : Nat) : Int) - 1).toNat = k := by omega
     have en : (((k + 1 : Nat) : Int)).toNat = k + 1 := by omega
     have hmn : min (k + 1) i = k + 1 := by omega
     have htl : (List.take (k + 1) (List.map D.int O)).length = k + 1 := by rw [List.length_take, List.length_map]; omega
     have htO : List.take (i - (k + 1)) (List.drop (k + 1) (List.map D.int O)) = List.drop (k + 1) (List.map D.int O) := List.take_of_length_le (by rw [List.length_drop, List.length_map]; omega);have htd : (List.drop (k + 1) (List.map D.int O)).length = i - (k + 1) := by rw [List.length_drop, List.length_map]; omega
     have hif : k + 1 + (i - (k + 1)) = i := by omega
     have ht2 : List.take (k + 1 + 1) (List.take (k + 1) (List.map D.int O) ++ [D.sc (Value.int IntKind.i64 x)]) = List.take (k + 1) (List.map D.int O) ++ [D.int x] := List.take_of_length_le (by rw [List.length_append, htl]; exact Nat.le_refl _);rw [Zcj] at hinv;by_cases hx : x < at0 O k
     ·rw [if_pos hx] at hinv;refine kw1 kO (kc3 gi gk ek) kc0 ?_;refine ⟨k, ?_, kN (kc3 @Int.natCast_add @Int.natCast_one @Int.add_sub_cancel) [], ?_⟩
      ·exact ⟨by omega, hinv⟩
      ·omega
     ·rw [if_neg hx] at hinv
      repeat' first | refine ZaK rfl ?_ | refine ZaF ?_ | refine Zci (Nat.beq 31) Zbr ?_ | (refine ZaM rfl rfl (fun hc => ?_) (fun hc => ?_) <;> try simp only [hcL] at hc) | (refine ZaL _ rfl rfl (fun hc => ?_) (fun hc => ?_) <;> (try simp only [hcL] at hc) <;> try omega) | simp (disch := omega) only [go_sem, simprocAttr, gi, gk, ek, en, roomy, hk, hil, List.drop_zero, List.nil_append, Nat.sub_zero, List.take_take, Nat.min_self, hmn, htO, htl, htd, hif, Nat.le_refl, List.length_append, List.length_cons, List.length_nil, Nat.zero_add] | (first | exact Zec _ | exact ZoU _ _ | exact Zpj _ _ | exact ZrE _ _ _) | apply And.intro | omega | decide +kernel
      have hins : ZdS O x = O.take (k + 1) ++ [x] ++ O.drop (k + 1) := by rw [ZdS, hil, ← hinv]
      refine ⟨i + 1, ?_, kN (kc6 his hins ht2 @List.map_append.{0,0} @List.map_take.{0,0} @List.map_drop.{0,0}) [(900, 47)], ?_⟩
      ·omega
      ·omega
  ·have : i = l.length := by omega
   subst this;refine kw1 kO kc0 kc0 ?_;exact Zdb (o := 900) rfl rfl (by simp [hil]) (List.take_of_length_le (by simp [hil]))
theorem ZnS (o : List Int) (x : Int) : ∀ (k j : Nat), Zcj o x k ≤ j → j < k → x < at0 o j
 | 0, j, _, h => by omega
 | k + 1, j, h1, h2 => by
  rw [Zcj] at h1;split at h1
  ·rename_i hx;rcases Nat.lt_or_ge j k with h | h
   ·exact ZnS o x k j h1 h
   ·rw [show j = k by omega]; exact hx
  ·omega
theorem ZqN (o : List Int) (x : Int) : ∀ (k p : Nat), Zcj o x k = p + 1 → at0 o p ≤ x
 | 0, p, h => by rw [Zcj] at h; omega
 | k + 1, p, h => by
  rw [Zcj] at h;split at h
  ·exact ZqN o x k p h
  ·rename_i hx;rw [show p = k by omega]; omega
theorem ZwG (o : List Int) (x : Int) : (ZdS o x).Perm (x :: o) := by
 rw [ZdS, List.append_assoc, List.singleton_append];refine List.perm_middle.trans ?_;rw [List.take_append_drop]
theorem Zxe {o : List Int} (h : o.Pairwise (· ≤ ·)) (x : Int) : (ZdS o x).Pairwise (· ≤ ·) := by
 have hlo : ∀ a, a ∈ o.take (Zcj o x o.length) → a ≤ x := by
  intro a ha;obtain ⟨j, hj⟩ := List.mem_iff_getElem?.1 ha;rw [List.getElem?_take] at hj;split at hj
  ·rename_i hjp;obtain ⟨p, hp⟩ : ∃ p, Zcj o x o.length = p + 1 := ⟨Zcj o x o.length - 1, by omega⟩;have h1 := ZqN o x o.length p hp;have h2 := ZmK o x o.length;have h3 := ZaW (r := o) (i := p) (by omega);rcases Nat.lt_or_ge j p with hl | hl
   ·have h4 := (List.getElem?_eq_some_iff.1 hj);obtain ⟨h5, h6⟩ := h4;obtain ⟨h7, h8⟩ := List.getElem?_eq_some_iff.1 h3;have := List.pairwise_iff_getElem.1 h j p h5 h7 hl;rw [h6, h8] at this;exact Int.le_trans this h1
   ·have : j = p := by omega
    subst this;rw [h3] at hj;cases hj;exact h1
  ·cases hj
 have hhi : ∀ a, a ∈ o.drop (Zcj o x o.length) → x ≤ a := by
  intro a ha;obtain ⟨j, hj⟩ := List.mem_iff_getElem?.1 ha;rw [List.getElem?_drop] at hj;have hlt : Zcj o x o.length + j < o.length := (List.getElem?_eq_some_iff.1 hj).1;have h1 := ZnS o x o.length (Zcj o x o.length + j) (by omega) hlt;rw [ZaW hlt] at hj;cases hj;omega
 rw [ZdS];refine List.pairwise_append.2 ⟨List.pairwise_append.2 ⟨h.sublist (List.take_sublist _ _), List.pairwise_singleton _ _, fun a ha b hb => ?_⟩, h.sublist (List.drop_sublist _ _), fun a ha b hb => ?_⟩
 ·rw [List.mem_singleton.1 hb]; exact hlo a ha
 ·rcases List.mem_append.1 ha with ha | ha
  ·exact Int.le_trans (hlo a ha) (hhi b hb)
  ·rw [List.mem_singleton.1 ha]; exact hhi b hb
theorem Zpa (l : List Int) : ∀ k, k ≤ l.length → (Zc2 l k).Perm (l.take k)
 | 0, _ => by simp [Zc2]
 | k + 1, h => by
  rw [Zc2, ZaD (ZaW (r := l) (i := k) (by omega))];exact (ZwG _ _).trans (((Zpa l k (by omega)).cons _).trans (List.perm_append_singleton _ _).symm)
theorem ZnC (l : List Int) : ∀ k, (Zc2 l k).Pairwise (· ≤ ·)
 | 0 => List.Pairwise.nil
 | k + 1 => by rw [Zc2]; exact Zxe (ZnC l k) _
theorem Zl6 (l : List Int) : (ZaG l).Pairwise (· ≤ ·) := by
 have h := List.pairwise_mergeSort (le := fun x y : Int => decide (x ≤ y)) (by intro a b c h1 h2; simp only [decide_eq_true_eq] at *; omega) (by intro a b; simp only [Bool.or_eq_true, decide_eq_true_eq]; omega) l;exact h.imp fun h => by simpa using h
theorem Zhv (l : List Int) : (ZaG l).Perm l := List.mergeSort_perm _ _
theorem Zum (l : List Int) : Zc2 l l.length = ZaG l := by
 refine List.Perm.eq_of_pairwise (le := (· ≤ ·)) (fun a b _ _ h1 h2 => Int.le_antisymm h1 h2) (ZnC l _) (Zl6 l) ?_;have := Zpa l l.length (Nat.le_refl _);rw [List.take_length] at this;exact this.trans (Zhv l).symm
theorem ZzW (l : List Int) (hl : l.length ≤ 1000) : Zaa Tryz.prog 114 [Zac l] (Zac (ZaG l)) := Zum l ▸ Zr5 l hl
theorem Zsp (a : Lv) (hn : a.2.1.length ≤ 1000) (hl : ∀ y, y ∈ a.2.1 → y.length ≤ 1000) : Zaa Tryz.prog 56 [lvD a] (lvD (ZcA a)) := by
 obtain ⟨n, ls, ar, cs⟩ := a;dsimp only at hn hl;refine kE Tryz.func56 ?_;intro hat B X w0;refine kw1 kO kc0 kc0 ?_;refine Zav _ (Zcs 3 1 901 1 rfl rfl rfl) ?_;refine Zai (fun (k : Nat) => k ≤ ls.length) (fun k => [(1, .ptr 1 0 0 0), (2, .ptr 2 0 0 0), (3, .ptr 3 0 0 0), (4, .int k)]) (fun k => [(1, .cells [.int n, .d (Zae ls), .d (Zak ar), .d (Zae cs)]), (2, .cells [.int 0, .nilS, .nilS, .nilS]), (3, .cells [.int n, .ref 901 1 0 k k, .d (Zak ar), .d (Zae cs)]), (901, .row 1 (((ls.map ZaG).take k).map Zac))]) (fun k => ls.length - k) 0 ?_ ?_ ?_
 ·exact Nat.zero_le _
 ·exact kN (kc2 @List.take_zero.{0} @List.map_nil.{0,0}) []
 ·intro k hk;rcases Nat.lt_or_ge k ls.length with hlt | hge
  ·obtain ⟨p, hp⟩ := Zad hlt;have hpl := hl p (List.mem_of_getElem? hp);have hs := ZzW p hpl;have hm : (ls.map ZaG)[k]? = some (ZaG p) := by rw [List.getElem?_map, hp]; rfl
   have hts := ZaD hm;have hlk : (((ls.map ZaG).take k).map Zac).length = k := by rw [List.length_map, List.length_take, List.length_map]; omega
   have htk : List.take k (((ls.map ZaG).take k).map Zac) = ((ls.map ZaG).take k).map Zac := List.take_of_length_le (by rw [hlk]; exact Nat.le_refl _);refine kw1 kO (kc2 hp hlk) (kc1 hs) ?_;refine ⟨k + 1, ?_, kN (kc3 hts @List.map_append.{0,0} htk) [(901, 28)], ?_⟩
   ·omega
   ·omega
  ·have : k = ls.length := by omega
   subst this;have htl : ((ls.map ZaG).take ls.length) = ls.map ZaG := List.take_of_length_le (by rw [List.length_map]; exact Nat.le_refl _)
   try dsimp only
   rw [htl];refine kw1 kO kc0 kc0 ?_;refine ⟨_, _, _, _, rfl, ?_⟩;simp (disch := omega) only [go_sem, simprocAttr, toD, List.length_map];rw [List.take_of_length_le (by rw [List.length_map, List.length_map]; exact Nat.le_refl _)];rfl
theorem Ziq (a b : Int) : (if b < a then b else a) = min a b := by omega
def Za9 (g : Nat → Int) (n k : Nat) : List Int := (List.range n).map fun u => if u < k then g u else 0
theorem Zdj (g : Nat → Int) (n k : Nat) : (Za9 g n k).length = n := by simp [Za9]
theorem ZeN {g : Nat → Int} {n k u : Nat} (h : u < n) : (Za9 g n k)[u]? = some (if u < k then g u else 0) := by simp [Za9, h]
theorem Zix (g : Nat → Int) (n : Nat) : (Za9 g n 0).map D.int = List.replicate n (D.int 0) := by
 rw [List.eq_replicate_iff];refine ⟨by simp [Za9], fun b hb => ?_⟩;simp only [Za9, List.map_map, List.mem_map] at hb;obtain ⟨u, _, rfl⟩ := hb;simp
theorem Zi3 {g : Nat → Int} {n k : Nat} (h : k < n) : (Za9 g n k).set k (g k) = Za9 g n (k + 1) := by
 refine List.ext_getElem? fun u => ?_
 by_cases hu : u < n
 ·rw [ZeN hu, List.getElem?_set, ZeN hu, Zdj];by_cases c : k = u
  ·subst c; rw [if_pos rfl, if_pos h, if_pos (by omega)]
  ·rw [if_neg c];by_cases c2 : u < k
   ·rw [if_pos c2, if_pos (by omega)]
   ·rw [if_neg c2, if_neg (by omega)]
 ·rw [List.getElem?_eq_none (by rw [List.length_set, Zdj]; omega), List.getElem?_eq_none (by rw [Zdj]; omega)]
theorem ZiM (g : Nat → Int) (n : Nat) : Za9 g n n = (List.range n).map g := by
 rw [Za9];refine List.map_congr_left fun u hu => ?_
 rw [if_pos (List.mem_range.1 hu)]

theorem ZqC {ds cs : List D} {l : List D} {m : List D} {k : Nat} (i j : Nat) (h : ∃ w X vs, ZgK w X ds vs) (hi : ds[i]? = some (.ag cs)) (hj : cs[j]? = some (.sl l)) (hk : l[k]? = some (.sl m)) : m.length ≤ 9223372036854775807 := by
 obtain ⟨w, X, vs, h1, h2⟩ := h;have hlt : i < vs.size := by have := (List.getElem?_eq_some_iff.1 hi).1; omega
 have := h2 i _ _ hi (Array.getElem?_eq_getElem hlt);generalize vs[i] = v at this;cases this with
 | ag _ arr hsz hone hat =>
  have hlt : j < arr.size := by have := (List.getElem?_eq_some_iff.1 hj).1; omega
  have := hat j _ _ hj (Array.getElem?_eq_getElem hlt);generalize arr[j] = v at this;cases this with
  | slnil => cases hk
  | sl _ b off cap sz hl hc hsz vals hv he =>
   have := he k _ 0 _ hk rfl;generalize vals k 0 = v at this;cases this with
   | slnil => simp
   | sl _ b off cap sz hl hc => simp only [maxLen] at hc; omega
def Zb4 (c : List Int) : Arc := (at0 c 0, at0 c ((c.length : Int) - 1))
def ZaZ (a : Lv) : Gr := (a.1, a.2.2.2.map Zb4)
def Za4 (a : Lv) : List Int := (List.range a.1.toNat).map fun v : Nat => ZaQ a.2.1 v
def Zgd (a : Lv) : Bool := decide (0 ≤ a.1 ∧ a.1 ≤ 64 ∧ a.2.2.2.length ≤ 256 ∧ a.2.1.length ≤ 256)
def Zdh (c : List Int) : Bool := decide (c.length < 2)
def ZgT (a : Lv) (v : Nat) : Bool := decide (ZaQ a.2.1 v < 0)
def Zff (a : Lv) : Bool := !(List.range a.1.toNat).any (ZgT a)
def Zax (a : Lv) : Bool := Zgd a && !a.2.2.2.any Zdh && Zff a && decide ((ZaI (ZaZ a) (Za4 a)).2 = 0) && Zew (ZcA a) (ZaI (ZaZ a) (Za4 a)).1
def wide (a : Lv) : Prop := ∀ y, y ∈ a.2.1 → y.length * 8 ≤ 140737488351232
theorem ZgQ (a : Lv) (hw : wide a) : Zaa Tryz.prog 51 [lvD a] (.bool (Zax a)) := by
 have hfd := Zke a;have hbd := ZpD (ZaZ a) (Za4 a);have hsd := ZtF a;have hsm := Zt5 (ZcA a) (ZaI (ZaZ a) (Za4 a)).1;obtain ⟨m, ls, ar, cs⟩ := a;refine kE Tryz.func51 ?_;intro hat B X w0;have h1 := Zb8 0 1 hat rfl rfl;have h2 := Zb8 0 2 hat rfl rfl;have h3 := Zb8 0 3 hat rfl rfl;rw [List.length_map] at h1 h2 h3;dsimp only at h1 h2 h3;refine kw kO kc0 kc0 ?_
 repeat' first | exact True.intro | refine Bn.mk ?_ ?_ | intro hc
 all_goals try (refine Zaj ?_; simp [Zax, Zgd]; omega)
 obtain ⟨n, rfl⟩ : ∃ n : Nat, m = n := ⟨m.toNat, by omega⟩;have hhd : Zgd ((n : Int), ls, ar, cs) = true := by simp [Zgd]; omega
 have hn64 : n ≤ 64 := by omega
 have hc256 : cs.length ≤ 256 := by omega
 have hl256 : ls.length ≤ 256 := by omega
 refine Zav _ (Zcs 3 1 901 2 rfl rfl rfl) ?_;refine Zai (fun (k : Nat) => k ≤ cs.length ∧ ∀ (j : Nat) y, j < k → cs[j]? = some y → Zdh y = false) (fun k => [(1, .ptr 1 0 0 0), (3, .ptr 3 0 0 0), (34, .d (Zae cs)), (35, .int cs.length), (36, .int k)]) (fun k => [(1, .cells [.int n, .d (Zae ls), .d (Zak ar), .d (Zae cs)]), (3, .cells [.int n, .ref 901 2 0 k k]), (901, .row 2 (((cs.take k).map Zb4).map ZaY))]) (fun k => cs.length - k) 0 ?_ ?_ ?_
 ·exact ⟨Nat.zero_le _, fun j y h => by omega⟩
 ·exact kN (kc2 @List.take_zero.{0} @List.map_nil.{0,0}) []
 ·rintro k ⟨hk, hinv⟩;rcases Nat.lt_or_ge k cs.length with hlt | hge
  ·obtain ⟨c, hc0⟩ := Zad hlt;by_cases hsc : c.length < 2
   ·refine kw1 kO (kc1 hc0) kc0 ?_;refine Zaj ?_;have : cs.any Zdh = true := Zc7 hc0 (by simpa [Zdh] using hsc);simp [Zax, this]
   ·have hcl : c.length ≤ 9223372036854775807 := by have := ZqC (m := c.map D.int) (k := k) 0 3 hat rfl rfl (by rw [List.getElem?_map, hc0]; rfl); rwa [List.length_map] at this
    have e1 := ZaW (r := c) (i := 0) (by omega);have e2 := Zey (r := c) (v := (c.length : Int) - 1) (by omega) (by omega);have hts := ZaD hc0;have hlk : (((cs.take k).map Zb4).map ZaY).length = k := by rw [List.length_map, List.length_map, List.length_take]; omega
    have htk : List.take k (((cs.take k).map Zb4).map ZaY) = ((cs.take k).map Zb4).map ZaY := List.take_of_length_le (by rw [hlk]; exact Nat.le_refl _);refine kw1 kO (kc4 hc0 e1 e2 hlk) kc0 ?_;refine ⟨k + 1, ?_, kN (kc3 hts @List.map_append.{0,0} htk) [(901, 56)], ?_⟩
    ·exact ⟨by omega, ZbL hinv hc0 (by simpa [Zdh] using hsc)⟩
    ·omega
  ·have : k = cs.length := by omega
   subst this;have hsc : cs.any Zdh = false := ZdI fun j y hj => hinv j y hj
   try dsimp only
   rw [List.take_length];refine kw1 (kow (Nat.beq 61) (b := false)) kc0 kc0 ?_;refine Zai (fun (v : Nat) => v ≤ n ∧ ∀ u, u < v → ZgT (n, ls, ar, cs) u = false) (fun v => [(1, .ptr 1 0 0 0), (3, .ptr 3 0 0 0), (6, .ref 61 1 0 n n), (63, .int n), (64, .int v)]) (fun v => [(1, .cells [.int n, .d (Zae ls), .d (Zak ar), .d (Zae cs)]), (3, .cells [.int n, .ref 901 2 0 cs.length cs.length]), (901, .row 2 ((cs.map Zb4).map ZaY)), (61, .row 1 ((Za9 (fun u => ZaQ ls u) n v).map D.int))]) (fun v => n - v) 0 ?_ ?_ ?_
   ·exact ⟨Nat.zero_le _, fun u h => by omega⟩
   ·exact kN (kc1 @Zix) []
   ·rintro v ⟨hv, hinv2⟩;have hfl := Zdj (fun u => ZaQ ls u) n v;rcases Nat.lt_or_ge v n with hlt | hge
    ·have hg := ZeN (g := fun u => ZaQ ls u) (k := v) hlt;have hst := Zi3 (g := fun u => ZaQ ls u) hlt;have hsm : (List.map D.int (Za9 (fun u => ZaQ ls u) n v)).set v (D.sc (Value.int IntKind.i64 (ZaQ ls v))) = List.map D.int (Za9 (fun u => ZaQ ls u) n (v + 1)) := by rw [← hst, List.map_set]
     have hfl2 := Zdj (fun u => ZaQ ls u) n (v + 1);have hg2 := ZeN (g := fun u => ZaQ ls u) (k := v + 1) hlt;rw [if_pos (by omega)] at hg2;have hf := hfd v;dsimp only at hf;by_cases hn : ZaQ ls v < 0
     ·have hfo : Zff ((n : Int), ls, ar, cs) = false := by
       rw [Zff, Bool.not_eq_false', List.any_eq_true];exact ⟨v, by simpa using hlt, by simpa [ZgT] using hn⟩
      refine kw1 kO (kc5 hg hsm hg2 hfl hfl2) (kc1 hf) ?_;refine Zaj ?_;simp [Zax, hfo]
     ·refine kw1 kO (kc5 hg hsm hg2 hfl hfl2) (kc1 hf) ?_;refine ⟨v + 1, ?_, kN (kc1 hsm) [], ?_⟩
      ·refine ⟨by omega, fun u hu => ?_⟩;rcases Nat.lt_succ_iff_lt_or_eq.1 hu with h | rfl
       ·exact hinv2 u h
       ·simpa [ZgT] using hn
      ·omega
    ·have : v = n := by omega
     subst this;have hfo : Zff ((v : Int), ls, ar, cs) = true := by
      rw [Zff, Bool.not_eq_true', List.any_eq_false];intro u hu;rw [hinv2 u (by simpa using hu)]
      decide
     have hre : Za9 (fun u => ZaQ ls u) v v = Za4 ((v : Int), ls, ar, cs) := by rw [ZiM, Za4]; rfl
     have hsg : ZaZ ((v : Int), ls, ar, cs) = ((v : Int), cs.map Zb4) := rfl
     try dsimp only
     rw [hre];rw [hsg] at hbd hsm;have hvf : Zax ((v : Int), ls, ar, cs) = (decide ((ZaI ((v : Int), cs.map Zb4) (Za4 ((v : Int), ls, ar, cs))).2 = 0) && Zew (ZcA ((v : Int), ls, ar, cs)) (ZaI ((v : Int), cs.map Zb4) (Za4 ((v : Int), ls, ar, cs))).1) := by rw [Zax, hhd, hsc, hfo, hsg]; simp
     rw [hvf];have hrl : (Za4 ((v : Int), ls, ar, cs)).length = v := by simp [Za4]
     generalize Za4 ((v : Int), ls, ar, cs) = R at *;generalize ZaI ((v : Int), cs.map Zb4) R = BF at *;obtain ⟨b, e⟩ := BF;have hsd1 := hsd (by simpa using (show ls.length ≤ 1000 by omega)) hw;generalize ZcA ((v : Int), ls, ar, cs) = S at *;dsimp only at hbd hsm ⊢;have htA : ((cs.map Zb4).map ZaY).take cs.length = (cs.map Zb4).map ZaY := List.take_of_length_le (by simp);have htR : (R.map D.int).take v = R.map D.int := List.take_of_length_le (by simp [hrl]);have hlA : ((cs.map Zb4).map ZaY).length = cs.length := by simp
     have hlR : (R.map D.int).length = v := by simp [hrl]
     refine Zav _ (Zc5 901 2 ((cs.map Zb4).map ZaY) rfl (ZcR _ rfl) (by decide)) ?_;refine kR (kc4 @List.drop_zero.{0} htA hlA @Nat.le_refl) [] [(1, .ptr 1 0 0 0), (3, .ptr 3 0 0 0), (6, .ref 61 1 0 v v), (63, .int v), (64, .int v)] [(1, .cells [.int v, .d (Zae ls), .d (Zak ar), .d (Zae cs)]), (3, .cells [.int v, .d (Zak (cs.map Zb4))]), (61, .row 1 (R.map D.int))] ?_;refine Zav _ (Zc5 61 1 (R.map D.int) rfl (ZcR _ rfl) (by decide)) ?_;by_cases he : e = 0
     ·subst he;rcases hsv : Zew S b with _ | _ <;> rw [hsv] at hsm
      all_goals
       refine kw1 kO (kc3 htR hlR @List.drop_zero.{0}) (kc3 hbd hsd1 hsm) ?_;refine Zaj ?_;simp [hsv]
     ·refine kw1 kO (kc4 he htR hlR @List.drop_zero.{0}) (kc3 hbd hsd1 hsm) ?_;refine Zaj ?_;simp [he]
def tot : List (List Int) → Nat
 | [] => 0
 | y :: l => y.length + tot l
theorem Zrt (l m : List (List Int)) : tot (l ++ m) = tot l + tot m := by
 induction l with
 | nil => simp [tot]
 | cons y l ih => simp only [List.cons_append, tot, ih]; omega
theorem Zpo {l : List (List Int)} {k : Nat} {y : List Int} (h : l[k]? = some y) : tot (l.take (k + 1)) = tot (l.take k) + y.length := by
 rw [ZaD h, Zrt]; simp [tot]
theorem ZpI (l : List (List Int)) (k : Nat) : tot (l.take k) ≤ tot l := by
 conv => rhs; rw [← List.take_append_drop k l]
 rw [Zrt]; omega
theorem Zka (l : List (List Int)) : l.flatten.length = tot l := by
 induction l with
 | nil => rfl
 | cons y l ih => simp only [List.flatten_cons, List.length_append, tot, ih]
theorem ZcU {l : List (List Int)} {y : List Int} (h : y ∈ l) : y.length ≤ tot l := by
 induction l with
 | nil => cases h
 | cons x l ih =>
  rw [tot];rcases List.mem_cons.1 h with rfl | h
  ·omega
  ·have := ih h; omega
def Zct (c : Nat) (ls : List (List Int)) : Bool := ls.flatten.all (fun v => decide (0 ≤ v ∧ v < c)) && decide ls.flatten.Nodup
def ZbY (c : Nat) (ls : List (List Int)) : List Int := (List.range c).map fun v : Nat => ZaQ ls v
def Zb3 (ls : List (List Int)) : Option (List Int) := if 256 < ls.length ∨ 512 < tot ls then none else if Zct (tot ls) ls then some (ZbY (tot ls) ls) else none
theorem ZeB (c : Nat) (ls : List (List Int)) : (ZbY c ls).length = c := by simp [ZbY]
theorem ZiU {c v : Nat} (h : v < c) (ls : List (List Int)) : (ZbY c ls)[v]? = some (ZaQ ls v) := by simp [ZbY, h]
theorem Zfm {ls : List (List Int)} {v : Int} : 0 ≤ ZaQ ls v ↔ v ∈ ls.flatten := by
 have h := ZgG (fun y : List Int => y.any fun x => decide (x = v)) ls;have : decide (0 ≤ ZaQ ls v) = true ↔ v ∈ ls.flatten := by
  rw [ZaQ, h, List.any_eq_true, List.mem_flatten];constructor
  ·rintro ⟨y, h1, h2⟩;obtain ⟨x, h3, h4⟩ := List.any_eq_true.1 h2;have : x = v := by simpa using h4
   exact ⟨y, h1, this ▸ h3⟩
  ·rintro ⟨y, h1, h2⟩;exact ⟨y, h1, List.any_eq_true.2 ⟨v, h2, by simp⟩⟩
 simpa using this
theorem Zk6 {ls : List (List Int)} {v : Int} (h : v ∉ ls.flatten) : ZaQ ls v = -1 := by
 have h2 : ¬ 0 ≤ ZaQ ls v := fun h1 => h (Zfm.1 h1)
 unfold ZaQ at h2 ⊢;unfold ZcH at h2 ⊢;split
 ·rename_i i hi; rw [hi] at h2; dsimp only at h2; omega
 ·rfl
theorem ZoS (ls : List (List Int)) (y : List Int) (v : Int) : ZaQ (ls ++ [y]) v = if v ∈ ls.flatten then ZaQ ls v else if v ∈ y then (ls.length : Int) else -1 := by
 by_cases h1 : v ∈ ls.flatten
 ·rw [if_pos h1];have h2 := Zfm.2 h1;unfold ZaQ at h2 ⊢;rw [List.findIdx?_append];cases hf : ls.findIdx? (fun y => y.any fun x => decide (x = v)) with
  | none => rw [hf] at h2; exact absurd h2 (by decide)
  | some i => rfl
 ·rw [if_neg h1];have h2 := Zk6 h1;by_cases h3 : v ∈ y
  ·rw [if_pos h3];unfold ZaQ at h2 ⊢;rw [List.findIdx?_append];cases hf : ls.findIdx? (fun y => y.any fun x => decide (x = v)) with
   | some i => rw [hf] at h2; simp only [ZcH] at h2; omega
   | none =>
    have : (y.any fun x => decide (x = v)) = true := List.any_eq_true.2 ⟨v, h3, by simp⟩;rw [List.findIdx?_cons, if_pos this];simp [ZcH]
  ·rw [if_neg h3];refine Zk6 ?_;rw [List.flatten_append, List.mem_append];rintro (h | h)
   ·exact h1 h
   ·exact h3 (by simpa using h)
def pre (ls : List (List Int)) (i k : Nat) : List (List Int) := ls.take i ++ [((ls[i]?).getD []).take k]
theorem Zxt (ls : List (List Int)) {i k : Nat} {y : List Int} (h : ls[i]? = some y) : ls.flatten = (pre ls i k).flatten ++ (y.drop k ++ (ls.drop (i + 1)).flatten) := by
 have hd : ls.drop i = y :: ls.drop (i + 1) := by
  obtain ⟨hi, he⟩ := List.getElem?_eq_some_iff.1 h;rw [← he]; exact List.drop_eq_getElem_cons hi
 conv => lhs; rw [← List.take_append_drop i ls, hd, List.flatten_append, List.flatten_cons]
 rw [pre, h, List.flatten_append];simp only [Option.getD_some, List.flatten_cons, List.flatten_nil, List.append_nil]
 conv => lhs; rw [← List.take_append_drop k y]
 simp only [List.append_assoc]
theorem ZuO (ls : List (List Int)) {i k : Nat} {y : List Int} {v : Int} (h : ls[i]? = some y) (hv : y[k]? = some v) : (pre ls i (k + 1)).flatten = (pre ls i k).flatten ++ [v] := by
 simp only [pre, h, Option.getD_some, List.flatten_append, List.flatten_cons, List.flatten_nil, List.append_nil, ZaD hv, List.append_assoc]
theorem Zx6 {c : Nat} (ls : List (List Int)) {i k : Nat} {y : List Int} {v : Int} (h : ls[i]? = some y) (hv : y[k]? = some v) (h0 : 0 ≤ v) (h1 : ZaQ (pre ls i k) v < 0) :
  (ZbY c (pre ls i k)).set v.toNat (i : Int) = ZbY c (pre ls i (k + 1)) := by
 have hi : (ls.take i).length = i := by rw [List.length_take]; have := (List.getElem?_eq_some_iff.1 h).1; omega
 refine List.ext_getElem? fun u => ?_
 by_cases hu : u < c
 ·rw [ZiU hu, List.getElem?_set, ZiU hu, ZeB];simp only [pre, h, Option.getD_some, ZoS, ZaD hv, hi, List.mem_append, List.mem_singleton] at h1 ⊢;by_cases e : v.toNat = u
  ·subst e;have ev : ((v.toNat : Nat) : Int) = v := by omega
   rw [if_pos rfl, if_pos hu, ev];split at h1
   ·rename_i hm; have := Zfm.2 hm; omega
   ·rename_i hm;rw [if_neg hm, if_pos (.inr rfl)]
  ·rw [if_neg e];have : ¬ (u : Int) = v := by omega
   simp [this]
 ·rw [List.getElem?_eq_none (by rw [List.length_set, ZeB]; omega), List.getElem?_eq_none (by rw [ZeB]; omega)]
theorem ZuW (ls : List (List Int)) (i : Nat) (v : Int) : ZaQ (pre ls i 0) v = ZaQ (ls.take i) v := by
 rw [pre, ZoS];by_cases h : v ∈ (ls.take i).flatten
 ·rw [if_pos h]
 ·rw [if_neg h, List.take_zero, if_neg List.not_mem_nil, Zk6 h]
theorem Zx4 (c : Nat) (ls : List (List Int)) (i : Nat) : ZbY c (pre ls i 0) = ZbY c (ls.take i) := by
 simp only [ZbY, ZuW]
theorem Zz7 {ls : List (List Int)} {i : Nat} {y : List Int} (h : ls[i]? = some y) : pre ls i y.length = ls.take (i + 1) := by
 rw [pre, h, Option.getD_some, List.take_length, ZaD h]
theorem Zst {c : Nat} {ls : List (List Int)} {i : Nat} : Zct c (pre ls i 0) = Zct c (ls.take i) := by
 simp [Zct, pre]
theorem ZfW {c : Nat} {ls : List (List Int)} : Zct c ls = true ↔ (∀ v ∈ ls.flatten, 0 ≤ v ∧ v < c) ∧ ls.flatten.Nodup := by
 simp only [Zct, Bool.and_eq_true, List.all_eq_true, decide_eq_true_eq]
theorem ZuX {c : Nat} {ls : List (List Int)} {i k : Nat} {y : List Int} {v : Int} (h : ls[i]? = some y) (hv : y[k]? = some v) (hg : Zct c (pre ls i k) = true) (h0 : 0 ≤ v) (h2 : v < c) (h1 : ZaQ (pre ls i k) v < 0) :
  Zct c (pre ls i (k + 1)) = true := by
 rw [ZfW] at hg ⊢;rw [ZuO ls h hv];have hn : v ∉ (pre ls i k).flatten := fun hm => by have := Zfm.2 hm; omega
 refine ⟨fun u hu => ?_, List.nodup_append.2 ⟨hg.2, by simp, fun a ha b hb => ?_⟩⟩
 ·rcases List.mem_append.1 hu with hu | hu
  ·exact hg.1 u hu
  ·rw [List.mem_singleton.1 hu]; exact ⟨h0, h2⟩
 ·rw [List.mem_singleton.1 hb]; rintro rfl; exact hn ha
theorem Zou {c : Nat} {ls : List (List Int)} {i k : Nat} {y : List Int} {v : Int} (h : ls[i]? = some y) (hv : y[k]? = some v) (hb : v < 0 ∨ (c : Int) ≤ v ∨ 0 ≤ ZaQ (pre ls i k) v) : Zct c ls = false := by
 rw [Bool.eq_false_iff];intro hg;rw [ZfW] at hg;have hd : y.drop k = v :: y.drop (k + 1) := by
  obtain ⟨hi, he⟩ := List.getElem?_eq_some_iff.1 hv;rw [← he]; exact List.drop_eq_getElem_cons hi
 have hf := Zxt ls (k := k) h;rw [hd] at hf;rw [hf] at hg;have hm := hg.1 v (by simp);rcases hb with hb | hb | hb
 ·omega
 ·omega
 ·exact (List.nodup_append.1 hg.2).2.2 v (Zfm.1 hb) v (by simp) rfl
theorem ZAb (c : Nat) : ZbY c [] = List.replicate c (-1) := by
 rw [List.eq_replicate_iff];refine ⟨ZeB _ _, fun b hb => ?_⟩;obtain ⟨u, _, rfl⟩ := List.mem_map.1 hb;rfl
def ZdT (c k : Nat) : List Int := List.replicate k (-1) ++ List.replicate (c - k) 0
theorem Znh {c k : Nat} (h : k ≤ c) : (ZdT c k).length = c := by simp [ZdT]; omega
theorem Ztm {c k : Nat} (h : k < c) : (ZdT c k).set k (-1) = ZdT c (k + 1) := by
 have e : c - k = (c - (k + 1)) + 1 := by omega
 rw [ZdT, e, List.replicate_succ, List.set_append, List.length_replicate, if_neg (by omega), Nat.sub_self, List.set_cons_zero, ZdT, List.replicate_succ', List.append_assoc];rfl
theorem Zuy {c k : Nat} (h : k < c) : ∃ x, (ZdT c k)[k]? = some x := Zad (by rw [Znh (by omega)]; exact h)
theorem Zyj (c : Nat) : ZdT c c = ZbY c [] := by rw [ZAb, ZdT, Nat.sub_self]; simp
theorem Zyd (c : Nat) : (ZdT c 0).map D.int = List.replicate c (D.int 0) := by simp [ZdT]
theorem Znn (a : Lv) (hw : wide a) : Zaa Tryz.prog 111 [lvD a] (.tup [Zac ((Zb3 a.2.1).getD []), .bool (Zb3 a.2.1).isSome]) := by
 obtain ⟨m, ls, ar, cs⟩ := a;have hww : ∀ y, y ∈ ls → y.length * 8 ≤ 140737488351232 := hw;refine kE Tryz.func111 ?_;intro hat B X w0;have h1 := Zb8 0 1 hat rfl rfl;rw [List.length_map] at h1;dsimp only at h1;refine kw1 kO kc0 kc0 ?_;refine Zai (fun (i : Nat) => i ≤ ls.length ∧ i ≤ 257 ∧ tot (ls.take i) ≤ 512 + 17592186043904) (fun i => [(1, .ptr 1 0 0 0), (4, .int (tot (ls.take i))), (5, .int i)]) (fun i => [(1, .cells [.int m, .d (Zae ls), .d (Zak ar), .d (Zae cs)])]) (fun i => ls.length - i) 0 ?_ ?_ ?_
 ·exact ⟨Nat.zero_le _, by omega, by simp [tot]⟩
 ·exact kN (kc2 @List.take_zero.{0} @tot.eq_1) []
 ·rintro i ⟨hi1, hi2, hi3⟩;by_cases hgo : i < ls.length ∧ i < 257 ∧ tot (ls.take i) ≤ 512
  ·obtain ⟨g1, g2, g3⟩ := hgo;obtain ⟨y, hy⟩ := Zad g1;have hyw := hww y (List.mem_of_getElem? hy);have hts := Zpo hy;refine kw1 kO (kc1 hy) kc0 ?_;refine ⟨i + 1, ?_, kN (kc2 hts @Int.natCast_add) [], ?_⟩
   ·exact ⟨by omega, by omega, by omega⟩
   ·omega
  ·have hout : (256 < ls.length ∨ 512 < tot (ls.take i)) ∨ (i = ls.length ∧ ls.length ≤ 256 ∧ tot ls ≤ 512) := by
    by_cases c1 : i = ls.length
    ·rw [c1, List.take_length]; omega
    ·omega
   rcases hout with hno | ⟨rfl, g2, g3⟩
   ·have htl := ZpI ls i;have hrf : Zb3 ls = none := by rw [Zb3, if_pos (by omega)]
    rw [hrf];have hlt : i < ls.length ∨ i = ls.length := by omega
    rcases hlt with hlt | hlt
    all_goals
     by_cases h257 : i < 257
     all_goals
      refine kw kO kc0 kc0 ?_
      repeat' first | exact True.intro | refine Bn.mk ?_ ?_ | intro hc
      all_goals exact ⟨_, rfl, rfl, Zaj rfl, trivial⟩
   ·rw [List.take_length];have hrf : Zb3 ls = if Zct (tot ls) ls then some (ZbY (tot ls) ls) else none := by rw [Zb3, if_neg (by omega)]
    rw [hrf];generalize hc : tot ls = c at g3 ⊢;refine kw1 (kow (Nat.beq 43) (b := false)) kc0 kc0 ?_;refine Zai (fun (v : Nat) => v ≤ c) (fun v => [(1, .ptr 1 0 0 0), (4, .int c), (6, .ref 43 1 0 c c), (7, .int v)]) (fun v => [(1, .cells [.int m, .d (Zae ls), .d (Zak ar), .d (Zae cs)]), (43, .row 1 ((ZdT c v).map D.int))]) (fun v => c - v) 0 ?_ ?_ ?_
    ·exact Nat.zero_le _
    ·exact kN (kc1 @Zyd) []
    ·intro v hv;have hnl := Znh hv;rcases Nat.lt_or_ge v c with hlt | hge
     ·obtain ⟨x, hx⟩ := Zuy hlt;have hst := Ztm hlt;refine kw1 kO (kc2 hx hnl) kc0 ?_;refine ⟨v + 1, ?_, kN (kc2 @hst.symm @List.map_set.{0,0}) [], ?_⟩
      ·omega
      ·omega
     ·have : v = c := by omega
      subst this
      try dsimp only
      rw [Zyj];refine kw1 kO kc0 kc0 ?_;refine Zai (fun (i : Nat) => i ≤ ls.length ∧ Zct v (ls.take i) = true) (fun i => [(1, .ptr 1 0 0 0), (4, .int v), (6, .ref 43 1 0 v v), (8, .int i)]) (fun i => [(1, .cells [.int m, .d (Zae ls), .d (Zak ar), .d (Zae cs)]), (43, .row 1 ((ZbY v (ls.take i)).map D.int))]) (fun i => ls.length - i) 0 ?_ ?_ ?_
      ·exact ⟨Nat.zero_le _, by simp [Zct]⟩
      ·exact kN (kc1 @List.take_zero.{0}) []
      ·rintro i ⟨hi, hgood⟩;rcases Nat.lt_or_ge i ls.length with hlt | hge
       ·obtain ⟨y, hy⟩ := Zad hlt;have hyw := hww y (List.mem_of_getElem? hy);refine kw1 kO (kc1 hy) kc0 ?_;refine Zai (fun (k : Nat) => k ≤ y.length ∧ Zct v (pre ls i k) = true) (fun k => [(1, .ptr 1 0 0 0), (4, .int v), (6, .ref 43 1 0 v v), (8, .int i), (9, .int k)]) (fun k => [(1, .cells [.int m, .d (Zae ls), .d (Zak ar), .d (Zae cs)]), (43, .row 1 ((ZbY v (pre ls i k)).map D.int))]) (fun k => y.length - k) 0 ?_ ?_ ?_
        ·exact ⟨Nat.zero_le _, by rw [Zst]; exact hgood⟩
        ·exact kN (kc1 @Zx4) []
        ·rintro k ⟨hk, hgk⟩;rcases Nat.lt_or_ge k y.length with hlk | hgk2
         ·obtain ⟨x, hx⟩ := Zad hlk;have hrl := ZeB v (pre ls i k);by_cases hin : 0 ≤ x ∧ x < v
          ·have hg := ZiU (v := x.toNat) (c := v) (by omega) (pre ls i k);rw [show ((x.toNat : Nat) : Int) = x by omega] at hg;by_cases hd : ZaQ (pre ls i k) x < 0
           ·have hst := Zx6 (c := v) ls hy hx hin.1 hd;refine kw1 kO (kc4 hy hx hrl hg) kc0 ?_;refine ⟨k + 1, ?_, kN (kc2 @hst.symm @List.map_set.{0,0}) [], ?_⟩
            ·exact ⟨by omega, ZuX hy hx hgk hin.1 hin.2 hd⟩
            ·omega
           ·have hbad := Zou (c := v) hy hx (.inr (.inr (by omega)));rw [hbad];refine kw1 kO (kc4 hy hx hrl hg) kc0 ?_
            all_goals exact ⟨_, rfl, rfl, Zaj rfl, trivial⟩
          ·have hbad := Zou (c := v) hy hx (by omega);rw [hbad];refine kw kO (kc3 hy hx hrl) kc0 ?_
           repeat' first | exact True.intro | refine Bn.mk ?_ ?_ | intro hc
           all_goals exact ⟨_, rfl, rfl, Zaj rfl, trivial⟩
         ·have : k = y.length := by omega
          subst this;have hpf := Zz7 hy;refine kw1 kO (kc1 hy) kc0 ?_;refine ⟨i + 1, ?_, kN (kc1 hpf) [], ?_⟩
          ·exact ⟨by omega, by rw [← hpf]; exact hgk⟩
          ·omega
       ·have : i = ls.length := by omega
        subst this;rw [List.take_length] at hgood
        try dsimp only
        rw [List.take_length, hgood];refine kw1 kO kc0 kc0 ?_;exact ⟨_, rfl, Zdb (o := 43) rfl rfl (by simp [ZeB]) (List.take_of_length_le (by simp [ZeB])), Zaj rfl, trivial⟩
def ZfM (a : Lv) (o : List Int) : Bool := decide (0 ≤ a.1 ∧ a.1 ≤ o.length ∧ a.1 ≤ 64 ∧ a.2.2.2.length ≤ 256) && !a.2.2.2.any Zdh
def Zb2 (a : Lv) : Gr × List Int × Bool := match Zb3 a.2.1 with
 | none => ((0, []), [], false)
 | some o => if ZfM a o then (ZaZ a, o.take a.1.toNat, true) else ((0, []), [], false)
def Zho (a : Lv) : Bool := (Zb2 a).2.2 && decide ((ZaI (Zb2 a).1 (Zb2 a).2.1).2 = 0) && Zew (ZaI (Zb2 a).1 (Zb2 a).2.1).1 (ZcA a)
theorem Zse (a : Lv) (hw : wide a) : Zaa Tryz.prog 54 [lvD a] (.tup [gD (Zb2 a).1, Zac (Zb2 a).2.1, .bool (Zb2 a).2.2]) := by
 have hr := Znn a hw;obtain ⟨m, ls, ar, cs⟩ := a;dsimp only at hr;have hsf : Zb2 (m, ls, ar, cs) = match Zb3 ls with
  | none => ((0, []), [], false)
  | some o => if ZfM (m, ls, ar, cs) o then ((m, cs.map Zb4), o.take m.toNat, true) else ((0, []), [], false) := rfl
 rw [hsf];rcases hrf : Zb3 ls with _ | o
 ·rw [hrf] at hr;dsimp only [Option.getD_none, Option.isSome_none] at hr;refine kE Tryz.func54 ?_;intro hat B X w0;refine kw1 kO kc0 (kc1 hr) ?_;refine ⟨_, rfl, ⟨_, _, _, _, rfl, ?_⟩, rfl, Zaj rfl, trivial⟩;simp (disch := omega) only [go_sem, simprocAttr, toD];rfl
 ·rw [hrf] at hr;dsimp only [Option.getD_some, Option.isSome_some] at hr;dsimp only;have hol : o.length ≤ 512 := by
   rw [Zb3] at hrf;split at hrf
   ·cases hrf
   ·split at hrf
    ·cases hrf; rw [ZeB]; omega
    ·cases hrf
  refine kE Tryz.func54 ?_;intro hat B X w0;have h3 := Zb8 0 3 hat rfl rfl;rw [List.length_map] at h3;dsimp only at h3;refine kw kO kc0 (kc1 hr) ?_
  repeat' first | exact True.intro | refine Bn.mk ?_ ?_ | intro hc
  all_goals try
   rw [if_neg (by simp [ZfM]; omega)];refine ⟨_, rfl, ⟨_, _, _, _, rfl, ?_⟩, rfl, Zaj rfl, trivial⟩;simp (disch := omega) only [go_sem, simprocAttr, toD];rfl
  obtain ⟨n, rfl⟩ : ∃ n : Nat, m = n := ⟨m.toNat, by omega⟩;have hn1 : n ≤ o.length := by omega
  have hn2 : n ≤ 64 := by omega
  have hc2 : cs.length ≤ 256 := by omega
  have hso : ZfM ((n : Int), ls, ar, cs) o = !cs.any Zdh := by
   simp only [ZfM]; rw [decide_eq_true (by omega), Bool.true_and]
  rw [hso];refine Zav _ (Zcs 7 1 901 2 rfl rfl rfl) ?_;refine Zai (fun (k : Nat) => k ≤ cs.length ∧ ∀ (j : Nat) y, j < k → cs[j]? = some y → Zdh y = false) (fun k => [(1, .ptr 1 0 0 0), (2, .ptr 2 0 0 0), (5, .d (Zac o)), (7, .ptr 7 0 0 0), (8, .int k)]) (fun k => [(1, .cells [.int n, .d (Zae ls), .d (Zak ar), .d (Zae cs)]), (2, .cells [.int 0, .nilS]), (7, .cells [.int n, .ref 901 2 0 k k]), (901, .row 2 (((cs.take k).map Zb4).map ZaY))]) (fun k => cs.length - k) 0 ?_ ?_ ?_
  ·exact ⟨Nat.zero_le _, fun j y h => by omega⟩
  ·exact kN (kc2 @List.take_zero.{0} @List.map_nil.{0,0}) []
  ·rintro k ⟨hk, hinv⟩;rcases Nat.lt_or_ge k cs.length with hlt | hge
   ·obtain ⟨c, hc0⟩ := Zad hlt;by_cases hsc : c.length < 2
    ·have : cs.any Zdh = true := Zc7 hc0 (by simpa [Zdh] using hsc);rw [this];refine kw1 kO (kc1 hc0) kc0 ?_;refine ⟨_, rfl, ⟨_, _, _, _, rfl, ?_⟩, rfl, Zaj rfl, trivial⟩;simp (disch := omega) only [go_sem, simprocAttr, toD];rfl
    ·have hcl : c.length ≤ 9223372036854775807 := by have := ZqC (m := c.map D.int) (k := k) 0 3 hat rfl rfl (by rw [List.getElem?_map, hc0]; rfl); rwa [List.length_map] at this
     have e1 := ZaW (r := c) (i := 0) (by omega);have e2 := Zey (r := c) (v := (c.length : Int) - 1) (by omega) (by omega);have hts := ZaD hc0;have hlk : (((cs.take k).map Zb4).map ZaY).length = k := by rw [List.length_map, List.length_map, List.length_take]; omega
     have htk : List.take k (((cs.take k).map Zb4).map ZaY) = ((cs.take k).map Zb4).map ZaY := List.take_of_length_le (by rw [hlk]; exact Nat.le_refl _);refine kw1 kO (kc4 hc0 e1 e2 hlk) kc0 ?_;refine ⟨k + 1, ?_, kN (kc3 hts @List.map_append.{0,0} htk) [(901, 73)], ?_⟩
     ·exact ⟨by omega, ZbL hinv hc0 (by simpa [Zdh] using hsc)⟩
     ·omega
   ·have : k = cs.length := by omega
    subst this;have hsc : cs.any Zdh = false := ZdI fun j y hj => hinv j y hj
    try dsimp only
    rw [List.take_length, hsc, if_pos (by decide)];have hlA : ((cs.map Zb4).map ZaY).length = cs.length := by simp
    repeat' first | refine ZaK rfl ?_ | refine ZaF ?_ | refine wR ?_ | (refine ZaM rfl rfl (fun hc => ?_) (fun hc => ?_) <;> try simp only [hcL] at hc) | (refine ZaL _ rfl rfl (fun hc => ?_) (fun hc => ?_) <;> (try simp only [hcL] at hc) <;> try omega) | simp (disch := omega) only [go_sem, simprocAttr] | exact Zec o | apply And.intro | omega | decide +kernel
    refine ⟨_, rfl, ⟨_, _, _, _, rfl, ?_⟩, ?_, Zaj rfl, trivial⟩
    ·simp (disch := omega) only [go_sem, simprocAttr, toD, hlA, Nat.le_refl, List.drop_zero];rw [List.take_of_length_le (by rw [hlA]; exact Nat.le_refl _)]
    ·exact ZcI (by rw [List.map_take])
theorem Zoz {a : Lv} (h : (Zb2 a).2.2 = true) : a.2.1.length ≤ 256 ∧ tot a.2.1 ≤ 512 := by
 rw [Zb2] at h;split at h
 ·cases h
 ·rename_i o ho;rw [Zb3] at ho;split at ho
  ·cases ho
  ·omega
theorem ZxY (a : Lv) (hw : wide a) : Zaa Tryz.prog 15 [lvD a] (.bool (Zho a)) := by
 have hs := Zse a hw;have hb := Zzf (Zb2 a).1 (Zb2 a).2.1;have hm := Zz9 (ZaI (Zb2 a).1 (Zb2 a).2.1).1 (ZcA a);rcases h1 : (Zb2 a).2.2 with _ | _
 ·rw [h1] at hs;rw [Zho, h1];refine kE Tryz.func15 ?_;intro hat B X w0;refine kw1 kO kc0 (kc1 hs) ?_;exact Zaj rfl
 ·rw [h1] at hs;rw [Zho, h1];obtain ⟨t1, t2⟩ := Zoz h1;have hp := Zsp a (by omega) (fun y hy => by have := ZcU hy; omega);generalize Zb2 a = S at *;generalize ZaI S.1 S.2.1 = BF at *;obtain ⟨b, e⟩ := BF;dsimp only at hb hm ⊢;by_cases he : e = 0
  ·subst he;rcases hsv : Zew b (ZcA a) with _ | _ <;> rw [hsv] at hm
   all_goals
    refine kE Tryz.func15 ?_;intro hat B X w0;refine kw1 kO kc0 (kc4 hs hb hp hm) ?_;exact Zaj rfl
  ·refine kE Tryz.func15 ?_;intro hat B X w0;refine kw1 kO (kc1 he) (kc4 hs hb hp hm) ?_;refine Zaj ?_;simp [he]
end Go.Proofs.YtjjbhjnpeenbkaaGreatDoor
