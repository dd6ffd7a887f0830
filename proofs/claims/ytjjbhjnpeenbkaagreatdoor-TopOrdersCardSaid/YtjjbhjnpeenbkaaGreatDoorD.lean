/- Levels built by the reference: the walk. -/
import Derived.Test.YtjjbhjnpeenbkaaGreatDoorTypes
set_option linter.unusedSimpArgs false
set_option linter.unusedVariables false
set_option maxHeartbeats 16000000
namespace Go.Proofs.YtjjbhjnpeenbkaaGreatDoor
open Go Go.PS Go.Proofs
set_option maxRecDepth 100000
attribute [local irreducible] Zab wpG Zaa Zaf

theorem Zep (r : List Int) : ∀ d, d ∈ List.map D.int r → d.cells.length = 1 := by
 intro d hd;obtain ⟨x, _, rfl⟩ := List.mem_map.1 hd;rfl
def hiN (r : List Int) : Nat → Int
 | 0 => -1
 | k + 1 => max (hiN r k) (at0 r k)
theorem Znc {r : List Int} (h : ∀ v : Nat, 0 ≤ at0 r v) : ∀ k : Nat, hiN r (k + 1) = Zcl r k
 | 0 => by
  have h0 := h 0;show max (-1) (at0 r ((0 : Nat) : Int)) = at0 r ((0 : Nat) : Int);omega
 | k + 1 => by rw [hiN, Znc h k, Zcl]
def Zbz (all : List Int) (k : Nat) : List (List Int) := (List.range k).map fun j => ZaT all j
theorem Zxw (all : List Int) (k : Nat) : Zbz all (k + 1) = Zbz all k ++ [ZaT all k] := by simp [Zbz, List.range_succ]
theorem ZlO (all : List Int) (k : Nat) : (Zbz all k).length = k := by simp [Zbz]
theorem Zxn (n : Nat) (l : List Arc) (r : List Int) (hrn : r.length = n) (hn : n ≤ 64) (hl : l.length ≤ 256) (g4 : ∀ (k : Nat) (a : Arc), l[k]? = some a → 0 ≤ a.1 ∧ a.1 < n ∧ 0 ≤ a.2 ∧ a.2 < n)
  (h5 : ∀ v : Nat, 0 ≤ at0 r v ∧ at0 r v ≤ 255) (hgap : ∀ (k : Nat) a, l[k]? = some a → 0 ≤ at0 r a.2 - at0 r a.1 - 1) (hbig : (n : Int) + ZaW r l l.length ≤ 512) :
  Zaa Tryz.prog 113 [gD (n, l), Zac r] (lvD (Zef (n, l) r)) := by
 have allR_len : ∀ e, e ≤ l.length → (Zay r l e).length ≤ 512 := fun e he => by
  have h1 := ZjS hgap e he;have h2 := Zod hgap l.length e he;omega
 have hA0 : Zay r l 0 = r := by simp [Zay]
 refine kE Tryz.func113 ?_;intro hat B X w0
 repeat' first | refine Zbk rfl ?_ | refine Za1 ?_ | refine ZcI (Nat.beq 20) ZbV ?_ | (refine Zbn rfl rfl (fun hc => ?_) (fun hc => ?_) <;> try simp only [hcL] at hc) | (refine Zbl _ rfl rfl (fun hc => ?_) (fun hc => ?_) <;> (try simp only [hcL] at hc) <;> try omega) | simp (disch := omega) only [go_sem, simprocAttr, List.append_eq, hrn, roomy] | exact Zep r | apply And.intro | omega | decide +kernel
 refine Zau _ (Zcy 5 1 905 1 rfl rfl rfl) ?_;refine Zau _ (Zcy 5 2 901 2 rfl rfl rfl) ?_;refine Zau _ (Zcy 5 3 902 1 rfl rfl rfl) ?_;refine Zai (fun (e : Nat) => e ≤ l.length) (fun e => [(1, .d (Zac r)), (2, .ptr 2 0 0 0), (4, .ptr 4 0 0 0), (5, .ptr 5 0 0 0), (6, .ref 904 1 0 (Zay r l e).length (Zay r l e).length), (7, .int e)]) (fun e => [(2, .cells [.int n, .d (Zak l)]), (4, .cells [.int 0, .nilS, .nilS, .nilS]), (5, .cells [.int n, .ref 905 1 0 0 0, .ref 901 2 0 (ZaO r l e).length (ZaO r l e).length, .ref 902 1 0 (ZaY r l e).length (ZaY r l e).length]), (905, .row 1 []), (901, .row 2 ((ZaO r l e).map ZaU)), (902, .row 1 ((ZaY r l e).map Zac)), (904, .row 1 ((Zay r l e).map D.int))]) (fun e => l.length - e) 0 ?_ ?_ ?_
 ·exact Nat.zero_le _
 ·exact kN (kc2 hA0 hrn) [(904, 22)]
 ·intro e he;rcases Nat.lt_or_ge e l.length with hel | hel
  ·obtain ⟨a, ha⟩ := Zad hel;have hai := g4 e a ha;have hga := hgap e a ha;have e1 := ZeD (r := r) (v := a.1) hai.1 (by omega);have e2 := ZeD (r := r) (v := a.2) hai.2.2.1 (by omega);have f1 := h5 a.1.toNat;have f2 := h5 a.2.toNat;rw [show ((a.1.toNat : Nat) : Int) = a.1 by omega] at f1;rw [show ((a.2.toNat : Nat) : Int) = a.2 by omega] at f2;have hgn : (ZaC r a : Int) = at0 r a.2 - at0 r a.1 - 1 := by rw [ZaC]; omega
   have hall := ZiD (r := r) ha;have hal := allR_len e he;have hafl := Zkt hgap e he;generalize hA : Zay r l e = all at hal hall hafl
   try dsimp only
   try rw [hA]
   repeat' first | refine Zbk rfl ?_ | refine Za1 ?_ | refine ZcI (Nat.beq 37) ZbV ?_ | (refine Zbn rfl rfl (fun hc => ?_) (fun hc => ?_) <;> try simp only [hcL] at hc) | (refine Zbl _ rfl rfl (fun hc => ?_) (fun hc => ?_) <;> (try simp only [hcL] at hc) <;> try omega) | simp (disch := omega) only [go_sem, simprocAttr, ha, e1, hrn] | apply And.intro | omega | decide +kernel
   refine Zai (fun (u : Nat) => u ≤ ZaC r a) (fun u => [(1, .d (Zac r)), (2, .ptr 2 0 0 0), (4, .ptr 4 0 0 0), (5, .ptr 5 0 0 0), (6, .ref 904 1 0 (all.length + u) (all.length + u)), (7, .int e), (8, .ptr 8 0 0 0), (9, .ref 903 1 0 (u + 1) (u + 1)), (10, .int (at0 r a.1 + 1 + u))]) (fun u => [(2, .cells [.int n, .d (Zak l)]), (4, .cells [.int 0, .nilS, .nilS, .nilS]), (8, .cells [.int a.1, .int a.2]), (5, .cells [.int n, .ref 905 1 0 0 0, .ref 901 2 0 (ZaO r l e).length (ZaO r l e).length, .ref 902 1 0 (ZaY r l e).length (ZaY r l e).length]), (905, .row 1 []), (901, .row 2 ((ZaO r l e).map ZaU)), (902, .row 1 ((ZaY r l e).map Zac)), (904, .row 1 ((all ++ Zal r a u).map D.int)), (903, .row 1 ((Zch all.length a u).map D.int))]) (fun u => ZaC r a - u) 0 ?_ ?_ ?_
   ·exact Nat.zero_le _
   ·exact kN (kc5 @Zch.eq_1 @Zal.eq_1 @List.range_zero @List.append_nil.{0} hA) [(903, 37)]
   ·intro u hu;have hcl := ZgQ all.length a u;have hnl := Zf8 r a u;have htk : ((Zch all.length a u).map D.int).take (u + 1) = (Zch all.length a u).map D.int := List.take_of_length_le (by rw [List.length_map, hcl]; exact Nat.le_refl _);have hta : ((all ++ Zal r a u).map D.int).take (all.length + u) = (all ++ Zal r a u).map D.int := List.take_of_length_le (by rw [List.length_map, List.length_append, hnl]; exact Nat.le_refl _);rcases Nat.lt_or_ge u (ZaC r a) with hul | hul
    ·have hcs := Zrq all.length a u;have hns := ZpR r a u;have hap : all ++ Zal r a (u + 1) = (all ++ Zal r a u) ++ [at0 r a.1 + 1 + u] := by rw [hns, List.append_assoc]
     have hlu : (all ++ Zal r a u).length = all.length + u := by rw [List.length_append, hnl]
     generalize all ++ Zal r a u = G at *;generalize Zch all.length a u = c at *;refine kw1 (kc6 e2 hrn hcl htk hta hlu) kc0 ?_;refine ⟨u + 1, ?_, eL [(903, 57), (904, 61)] _ _ (by refine ⟨?_, ?_⟩ <;> (repeat' first | exact fmn | refine fmc ⟨(by first | rfl | (simp (disch := omega) only [go_sem, simprocAttr, inL, hcs, hap, List.map_append, Int.natCast_add, Int.natCast_one, ← Int.add_assoc, List.length_append, hcl, hlu]; first | done | omega | (congr 1; done))), ?_⟩); done), ?_⟩
     ·omega
     ·omega
    ·have : u = ZaC r a := by omega
     subst this;have hcd : Zaz r all.length a = Zch all.length a (ZaC r a) ++ [a.2] := rfl;have hcl2 := Zli r all.length a;refine Zcp (kc4 e2 hrn hcl htk) kc0 ?_;refine Zai (fun (j : Nat) => j ≤ ZaC r a + 1) (fun j => [(1, .d (Zac r)), (2, .ptr 2 0 0 0), (4, .ptr 4 0 0 0), (5, .ptr 5 0 0 0), (6, .ref 904 1 0 (all.length + ZaC r a) (all.length + ZaC r a)), (7, .int e), (8, .ptr 8 0 0 0), (9, .ref 903 1 0 (ZaC r a + 2) (ZaC r a + 2)), (11, .int ((j : Int) + 1))]) (fun j => [(2, .cells [.int n, .d (Zak l)]), (4, .cells [.int 0, .nilS, .nilS, .nilS]), (8, .cells [.int a.1, .int a.2]), (5, .cells [.int n, .ref 905 1 0 0 0, .ref 901 2 0 (ZaO r l e ++ ZbG (Zaz r all.length a) j).length (ZaO r l e ++ ZbG (Zaz r all.length a) j).length, .ref 902 1 0 (ZaY r l e).length (ZaY r l e).length]), (905, .row 1 []), (901, .row 2 ((ZaO r l e ++ ZbG (Zaz r all.length a) j).map ZaU)), (902, .row 1 ((ZaY r l e).map Zac)), (904, .row 1 ((all ++ Zal r a (ZaC r a)).map D.int)), (903, .row 1 ((Zaz r all.length a).map D.int))]) (fun j => ZaC r a + 1 - j) 0 ?_ ?_ ?_
     ·exact Nat.zero_le _
     ·exact kN (kc5 hcd @List.map_append.{0,0} @ZbG.eq_1 @List.range_zero @List.append_nil.{0}) [(903, 66)]
     ·intro j hj;have hpl := Zmg (Zaz r all.length a) j;rcases Nat.lt_or_ge j (ZaC r a + 1) with hjl | hjl
      ·have gc1 := ZaS (r := Zaz r all.length a) (i := j) (by omega);have gc2 := ZaS (r := Zaz r all.length a) (i := j + 1) (by omega);have en : ((j : Int) + 1).toNat = j + 1 := by omega
       have hps := Znz (Zaz r all.length a) j;have hpa : ZaU (Zgq (Zaz r all.length a) j) = .ag [.int (at0 (Zaz r all.length a) j), .int (at0 (Zaz r all.length a) ((j + 1 : Nat) : Int))] := rfl;have hap : ZaO r l e ++ ZbG (Zaz r all.length a) (j + 1) = (ZaO r l e ++ ZbG (Zaz r all.length a) j) ++ [Zgq (Zaz r all.length a) j] := by rw [hps, List.append_assoc]
       have hal2 : (ZaO r l e ++ ZbG (Zaz r all.length a) j).length ≤ 2000 := by rw [List.length_append]; omega
       try dsimp only
       generalize Zaz r all.length a = c at *;generalize hG : ZaO r l e ++ ZbG c j = G at *;refine kw1 (kc6 gc1 gc2 en hcl2 @Int.add_sub_cancel @Zat) kc0 ?_;refine ⟨j + 1, ?_, kN (kc8 hap @List.map_append.{0,0} @List.length_append.{0} @List.length_cons.{0} @List.length_nil.{0} hpa @Int.natCast_add @Int.natCast_one) [(901, 86)], ?_⟩
       ·omega
       ·omega
      ·have : j = ZaC r a + 1 := by omega
       subst this;have hcf : ZaY r l (e + 1) = ZaY r l e ++ [Zaz r all.length a] := by rw [ZaY, Zbq, Zix, ha, hA]; rfl
       have haf : ZaO r l (e + 1) = ZaO r l e ++ ZbG (Zaz r all.length a) (ZaC r a + 1) := by rw [ZaO, Zbq, Ziu, ha, hA]; rfl
       have hcfl := Zkg r l e he;have hnl := Zf8 r a (ZaC r a);have hcd2 : ((Zaz r all.length a).map D.int).take (ZaC r a + 2) = (Zaz r all.length a).map D.int := List.take_of_length_le (by rw [List.length_map, hcl2]; exact Nat.le_refl _);have hcft : ((ZaY r l e).map Zac).take e = (ZaY r l e).map Zac := List.take_of_length_le (by rw [List.length_map, hcfl]; exact Nat.le_refl _);refine Zau _ (Zc8 903 1 ((Zaz r all.length a).map D.int) rfl (ZcR _ rfl) (by decide)) ?_;refine kw1 (kc5 hcl2 @List.length_map.{0,0} hcd2 hcfl @Zat) kc0 ?_;refine ⟨e + 1, ?_, kN (kc8 hcf haf hall @List.map_append.{0,0} @List.length_append.{0} @List.length_cons.{0} @List.length_nil.{0} (kc7 hnl @Int.natCast_add @Int.natCast_one hcl2 hcd2 hcfl hcft)) [(902, 92)], ?_⟩
       ·omega
       ·omega
  ·have : e = l.length := by omega
   subst this;have hal := allR_len l.length (Nat.le_refl _);have hmd : Zef (n, l) r = ((n : Int), if (n : Int) = 0 then [] else (List.range (Zcl r (r.length - 1) + 1).toNat).map fun k => ZaT (Zay r l l.length) k, ZaO r l l.length, ZaY r l l.length) := rfl;rw [hmd];generalize Zay r l l.length = A at hal ⊢;generalize ZaO r l l.length = E;generalize ZaY r l l.length = C;refine kw1 kc0 kc0 ?_;refine Zai (fun (v : Nat) => v ≤ n) (fun v => [(1, .d (Zac r)), (2, .ptr 2 0 0 0), (4, .ptr 4 0 0 0), (5, .ptr 5 0 0 0), (6, .ref 904 1 0 A.length A.length), (12, .int (hiN r v)), (13, .int v)]) (fun v => [(2, .cells [.int n, .d (Zak l)]), (4, .cells [.int 0, .nilS, .nilS, .nilS]), (5, .cells [.int n, .ref 905 1 0 0 0, .ref 901 2 0 E.length E.length, .ref 902 1 0 C.length C.length]), (905, .row 1 ([])), (901, .row 2 (E.map ZaU)), (902, .row 1 (C.map Zac)), (904, .row 1 (A.map D.int))]) (fun v => n - v) 0 ?_ ?_ ?_
   ·exact Nat.zero_le _
   ·exact kN (kc1 @hiN.eq_1) []
   ·intro v hv;rcases Nat.lt_or_ge v n with hvn | hvn
    ·have gv := ZaS (r := r) (i := v) (by omega);refine kw1 (kc2 gv hrn) kc0 ?_;refine ⟨v + 1, ?_, kN (kc2 @hiN.eq_1 @Zjh) [], ?_⟩
     ·omega
     ·omega
    ·have : n = v := by omega
     subst this;obtain ⟨H, hH⟩ : ∃ H : Nat, hiN r n + 1 = H ∧ H ≤ 256 ∧ (if (n : Int) = 0 then [] else (List.range (Zcl r (r.length - 1) + 1).toNat).map fun k => ZaT A k) = Zbz A H := by
      rcases Nat.eq_zero_or_pos n with h0 | h0
      ·refine ⟨0, ?_, by omega, ?_⟩
       ·rw [h0, hiN]; rfl
       ·rw [if_pos (by omega)]; rfl
      ·obtain ⟨m, rfl⟩ : ∃ m, n = m + 1 := ⟨n - 1, by omega⟩;have e1 := Znc (fun v => (h5 v).1) m;have e2 := Zjx (fun j => (h5 j).2) m;have e3 := Zht r m 0 (by omega);have e4 := h5 0;refine ⟨(Zcl r m + 1).toNat, by omega, by omega, ?_⟩;rw [if_neg (by omega), hrn, Nat.add_sub_cancel];rfl
     obtain ⟨hH, hH2, hH3⟩ := hH;rw [hH3];generalize hiN r n = hi at hH ⊢;refine kw1 kc0 kc0 ?_;refine Zai (fun (k : Nat) => k ≤ H) (fun k => [(1, .d (Zac r)), (2, .ptr 2 0 0 0), (4, .ptr 4 0 0 0), (5, .ptr 5 0 0 0), (6, .ref 904 1 0 A.length A.length), (12, .int hi), (14, .int k)]) (fun k => [(2, .cells [.int n, .d (Zak l)]), (4, .cells [.int 0, .nilS, .nilS, .nilS]), (5, .cells [.int n, .ref 905 1 0 k k, .ref 901 2 0 E.length E.length, .ref 902 1 0 C.length C.length]), (905, .row 1 ((Zbz A k).map Zac)), (901, .row 2 (E.map ZaU)), (902, .row 1 (C.map Zac)), (904, .row 1 (A.map D.int))]) (fun k => H - k) 0 ?_ ?_ ?_
     ·exact Nat.zero_le _
     ·exact kN (kc3 @Zbz.eq_1 @List.range_zero @List.map_nil.{0,0}) []
     ·intro k hk;rcases Nat.lt_or_ge k H with hkH | hkH
      ·have hlk := ZlO A k;refine kw1 kc0 kc0 ?_;refine Zau _ (Zd5 15 906 1 rfl rfl) ?_;refine Zai (fun (i : Nat) => i ≤ A.length) (fun i => [(1, .d (Zac r)), (2, .ptr 2 0 0 0), (4, .ptr 4 0 0 0), (5, .ptr 5 0 0 0), (6, .ref 904 1 0 A.length A.length), (12, .int hi), (14, .int k), (15, .ref 906 1 0 (ZaT (A.take i) k).length (ZaT (A.take i) k).length), (16, .int i)]) (fun i => [(2, .cells [.int n, .d (Zak l)]), (4, .cells [.int 0, .nilS, .nilS, .nilS]), (5, .cells [.int n, .ref 905 1 0 k k, .ref 901 2 0 E.length E.length, .ref 902 1 0 C.length C.length]), (905, .row 1 ((Zbz A k).map Zac)), (901, .row 2 (E.map ZaU)), (902, .row 1 (C.map Zac)), (904, .row 1 (A.map D.int)), (906, .row 1 ((ZaT (A.take i) k).map D.int))]) (fun i => A.length - i) 0 ?_ ?_ ?_
       ·exact Nat.zero_le _
       ·exact kN (kc6 @ZaT.eq_1 @List.take_zero.{0} @List.range_zero @List.length_nil.{0} @List.filter_nil.{0} @List.map_nil.{0,0}) []
       ·intro i hi2;have hll := ZkD (A.take i) k;rw [List.length_take] at hll;rcases Nat.lt_or_ge i A.length with hiA | hiA
        ·have gi := ZaS hiA;have hst : ZaT (A.take (i + 1)) k = if at0 A i = k then ZaT (A.take i) k ++ [(i : Int)] else ZaT (A.take i) k := by
          rw [ZaD gi, ZlG, List.length_take, Nat.min_eq_left (by omega)]
         generalize ZaT (A.take i) k = L at hst hll ⊢;by_cases hx : at0 A i = k
         ·rw [if_pos hx] at hst;refine kw1 (kc3 gi hx @Zat) kc0 ?_;refine ⟨i + 1, ?_, kN (kc5 hst @List.map_append.{0,0} @List.length_append.{0} @List.length_cons.{0} @List.length_nil.{0}) [(906, 126)], ?_⟩
          ·omega
          ·omega
         ·rw [if_neg hx] at hst;refine kw1 (kc2 gi @Zat) kc0 ?_;refine ⟨i + 1, ?_, kN (kc1 hst) [], ?_⟩
          ·omega
          ·omega
        ·have : i = A.length := by omega
         subst this;have hAA : A.take A.length = A := List.take_length;rw [hAA] at hll;have hls := Zxw A k;have hlt : ((Zbz A k).map Zac).take k = (Zbz A k).map Zac := List.take_of_length_le (by rw [List.length_map, hlk]; exact Nat.le_refl _)
         try dsimp only
         rw [hAA];refine Zau _ (Zc8 906 1 ((ZaT A k).map D.int) rfl (ZcR _ rfl) (by decide)) ?_;refine kw1 (kc3 @List.length_map.{0,0} hlk @Zat) kc0 ?_;refine ⟨k + 1, ?_, kN (kc8 hls @List.map_append.{0,0} @List.length_append.{0} @List.length_cons.{0} @List.length_nil.{0} hlk hlt (kc2 @Int.natCast_add @Int.natCast_one)) [(905, 131)], ?_⟩
         ·omega
         ·omega
      ·have : k = H := by omega
       subst this;have hlk := ZlO A k;refine kw1 kc0 kc0 ?_;have hlt : ((Zbz A k).map Zac).take k = (Zbz A k).map Zac := List.take_of_length_le (by rw [List.length_map, hlk]; exact Nat.le_refl _);refine ⟨_, _, _, _, rfl, ?_⟩;simp (disch := omega) only [go_sem, simprocAttr, toD, hlk, hlt, Zat]
theorem Zuj (g : Gr) (r : List Int) (h : gOk g = false ∨ (r.length : Int) ≠ g.1) : Zaa Tryz.prog 55 [gD g, Zac r] (.tup [lvD lv0, .int 1]) := by
 have hv := Zil g;rcases h1 : gOk g with _ | _ <;> rw [h1] at hv
 ·refine kE Tryz.func55 ?_;intro hat B X w0;refine kw1 kc0 (kc1 hv) ?_
  all_goals
   refine ⟨_, rfl, ⟨_, _, _, _, rfl, ?_⟩, Zag ?_, trivial⟩
   ·simp (disch := omega) only [go_sem, simprocAttr, toD];rfl
   ·rfl
 ·have h2 : (r.length : Int) ≠ g.1 := by
   rcases h with h | h
   ·rw [h1] at h; exact absurd h (by decide)
   ·exact h
  refine kE Tryz.func55 ?_;intro hat B X w0;have hl := Zbf 1 hat rfl;rw [List.length_map] at hl;refine kw1 (kc1 h2) (kc1 hv) ?_
  all_goals
   refine ⟨_, rfl, ⟨_, _, _, _, rfl, ?_⟩, Zag ?_, trivial⟩
   ·simp (disch := omega) only [go_sem, simprocAttr, toD];rfl
   ·rfl
theorem ZyT (g : Gr) (r : List Int) (h1 : gOk g = true) (h2 : (r.length : Int) = g.1) : Zaa Tryz.prog 55 [gD g, Zac r] (.tup [lvD (ZaH g r).1, .int (ZaH g r).2]) := by
 have hv := Zil g;obtain ⟨g1, g2, g3, g4⟩ := ZhA h1;have hbf : ZaH g r = if r.any ZcG then (lv0, 1) else if g.2.any Zc3 then (lv0, 8) else if g.2.any (Zcs r) then (lv0, 3) else if 512 < g.1 + ZaW r g.2 g.2.length then (lv0, 2) else (Zef g r, 0) := by
  rw [ZaH, Zds, h1];cases r.any ZcG <;> simp [h2]
 rw [h1] at hv;obtain ⟨m, l⟩ := g;dsimp only at g1 g2 g3 g4 h2 hbf;obtain ⟨n, rfl⟩ : ∃ n : Nat, m = n := ⟨m.toNat, by omega⟩;have hrn : r.length = n := by omega
 refine kE Tryz.func55 ?_;intro hat B X w0;refine kw1 (kc1 hrn) (kc1 hv) ?_;refine Zai (fun (k : Nat) => k ≤ n ∧ ∀ (j : Nat) y, j < k → r[j]? = some y → ZcG y = false) (fun k => [(1, .d (Zac r)), (2, .ptr 2 0 0 0), (4, .ptr 4 0 0 0), (6, .int k)]) (fun k => [(2, .cells [.int n, .d (Zak l)]), (4, .cells [.int 0, .nilS, .nilS, .nilS])]) (fun k => n - k) 0 ?_ ?_ ?_
 ·exact ⟨Nat.zero_le _, fun j y h => by omega⟩
 ·exact kN kc0 []
 ·rintro k ⟨hk, hinv⟩;rcases Nat.lt_or_ge k n with hlt | hge
  ·have gk := ZaS (r := r) (i := k) (by omega);rcases hrb : ZcG (at0 r k) with _ | _
   ·have hb : 0 ≤ at0 r k ∧ at0 r k ≤ 255 := by
     simp only [ZcG, decide_eq_false_iff_not] at hrb;omega
    refine kw1 (kc2 gk hrn) kc0 ?_;refine ⟨k + 1, ?_, kN kc0 [], ?_⟩
    ·exact ⟨by omega, ZbK hinv gk hrb⟩
    ·omega
   ·have hany : r.any ZcG = true := Zc6 gk hrb;rw [hbf, if_pos hany];simp only [ZcG, decide_eq_true_eq] at hrb;refine kw (kc2 gk hrn) kc0 ?_
    repeat' first | exact True.intro | refine Bn.mk ?_ ?_ | intro hc
    all_goals
     refine ⟨_, rfl, ⟨_, _, _, _, rfl, ?_⟩, Zag ?_, trivial⟩
     ·simp (disch := omega) only [go_sem, simprocAttr, toD];rfl
     ·rfl
  ·have : n = k := by omega
   subst this;have hany : r.any ZcG = false := ZdT fun j y hj => hinv j y (by omega)
   have hrk : Zds ((n : Int), l) r = true := by simp [Zds, h1, hrn, hany]
   obtain ⟨_, _, _, h5⟩ := Zjy hrk;have hsum := Zmv (r := r) (l := l) h5 (fun k a ha => by have := g4 k a ha; omega);rw [hany] at hbf;simp only [Bool.false_eq_true, if_false] at hbf;refine kw1 kc0 kc0 ?_;refine Zai (fun (k : Nat) => k ≤ l.length ∧ ∀ (j : Nat) y, j < k → l[j]? = some y → Zc3 y = false) (fun k => [(1, .d (Zac r)), (2, .ptr 2 0 0 0), (4, .ptr 4 0 0 0), (7, .int k)]) (fun k => [(2, .cells [.int n, .d (Zak l)]), (4, .cells [.int 0, .nilS, .nilS, .nilS])]) (fun k => l.length - k) 0 ?_ ?_ ?_
   ·exact ⟨Nat.zero_le _, fun j y h => by omega⟩
   ·exact kN kc0 []
   ·rintro k ⟨hk, hinv⟩;rcases Nat.lt_or_ge k l.length with hlt | hge
    ·obtain ⟨a, ha⟩ := Zad hlt;rcases hlf : Zc3 a with _ | _
     ·have hne : ¬ a.1 = a.2 := by simpa [Zc3] using hlf
      refine kw1 (kc1 ha) kc0 ?_;refine ⟨k + 1, ?_, kN kc0 [], ?_⟩
      ·exact ⟨by omega, ZbK hinv ha hlf⟩
      ·omega
     ·have hany : l.any Zc3 = true := Zc6 ha hlf;have hne : a.1 = a.2 := by simpa [Zc3] using hlf
      rw [hbf, if_pos hany];refine kw1 (kc1 ha) kc0 ?_;refine ⟨_, rfl, ⟨_, _, _, _, rfl, ?_⟩, Zag ?_, trivial⟩
      ·simp (disch := omega) only [go_sem, simprocAttr, toD];rfl
      ·rfl
    ·have : k = l.length := by omega
     subst this;have hany : l.any Zc3 = false := ZdT fun j y hj => hinv j y (by omega)
     rw [hany] at hbf;simp only [Bool.false_eq_true, if_false] at hbf;refine kw1 kc0 kc0 ?_;refine Zai (fun (k : Nat) => k ≤ l.length ∧ ∀ (j : Nat) y, j < k → l[j]? = some y → Zcs r y = false) (fun k => [(1, .d (Zac r)), (2, .ptr 2 0 0 0), (4, .ptr 4 0 0 0), (8, .int (n + ZaW r l k)), (9, .int k)]) (fun k => [(2, .cells [.int n, .d (Zak l)]), (4, .cells [.int 0, .nilS, .nilS, .nilS])]) (fun k => l.length - k) 0 ?_ ?_ ?_
     ·exact ⟨Nat.zero_le _, fun j y h => by omega⟩
     ·exact kN (kc2 @ZaW.eq_1 @Int.add_zero) []
     ·rintro k ⟨hk, hinv⟩;have hsk := hsum k;rcases Nat.lt_or_ge k l.length with hlt | hge
      ·obtain ⟨a, ha⟩ := Zad hlt;have hai := g4 k a ha;have e1 := ZeD (r := r) (v := a.1) hai.1 (by omega);have e2 := ZeD (r := r) (v := a.2) hai.2.2.1 (by omega);have f1 := h5 a.1.toNat;have f2 := h5 a.2.toNat;rw [show ((a.1.toNat : Nat) : Int) = a.1 by omega] at f1;rw [show ((a.2.toNat : Nat) : Int) = a.2 by omega] at f2;have hss : ZaW r l (k + 1) = ZaW r l k + (at0 r a.2 - at0 r a.1 - 1) := by rw [ZaW, ha]
       rcases hup : Zcs r a with _ | _
       ·have hup2 := hup;rw [Zcs, decide_eq_false_iff_not] at hup2;refine kw1 (kc4 ha e1 e2 hrn) kc0 ?_;refine ⟨k + 1, ?_, kN (kc2 hss @Int.add_assoc) [], ?_⟩
        ·exact ⟨by omega, ZbK hinv ha hup⟩
        ·omega
       ·have hany : l.any (Zcs r) = true := Zc6 ha hup;rw [Zcs, decide_eq_true_eq] at hup;rw [hbf, if_pos hany];refine kw1 (kc4 ha e1 e2 hrn) kc0 ?_;refine ⟨_, rfl, ⟨_, _, _, _, rfl, ?_⟩, Zag ?_, trivial⟩
        ·simp (disch := omega) only [go_sem, simprocAttr, toD];rfl
        ·rfl
      ·have : k = l.length := by omega
       subst this;have hany : l.any (Zcs r) = false := ZdT fun j y hj => hinv j y (by omega)
       rw [hbf, if_neg (by rw [hany]; decide)];by_cases hbig : 512 < (n : Int) + ZaW r l l.length
       ·rw [if_pos hbig];refine kw1 kc0 kc0 ?_;refine ⟨_, rfl, ⟨_, _, _, _, rfl, ?_⟩, Zag ?_, trivial⟩
        ·simp (disch := omega) only [go_sem, simprocAttr, toD];rfl
        ·rfl
       ·rw [if_neg hbig];have hgap : ∀ (k : Nat) a, l[k]? = some a → 0 ≤ at0 r a.2 - at0 r a.1 - 1 := fun k a ha => by
         have := List.any_eq_false.1 hany a (List.mem_of_getElem? ha);rw [Zcs, decide_eq_true_eq] at this; omega
        have hm := Zxn n l r hrn (by omega) g3 g4 h5 hgap (by omega);refine kw1 kc0 (kc1 hm) ?_;refine ⟨_, rfl, ⟨_, _, _, _, rfl, ?_⟩, Zag ?_, trivial⟩
        ·simp (disch := omega) only [go_sem, simprocAttr, toD]
        ·rfl
theorem Zxh (g : Gr) (r : List Int) : Zaa Tryz.prog 55 [gD g, Zac r] (.tup [lvD (ZaH g r).1, .int (ZaH g r).2]) := by
 by_cases h : gOk g = true ∧ (r.length : Int) = g.1
 ·exact ZyT g r h.1 h.2
 ·have hr : Zds g r = false := by
   rw [Zds];rcases h1 : gOk g with _ | _
   ·simp
   ·have h2 : ¬ (r.length : Int) = g.1 := fun h2 => h ⟨h1, h2⟩
    simp [h2]
  have e : ZaH g r = (lv0, 1) := by rw [ZaH, if_pos hr]
  rw [e];refine Zuj g r ?_;rcases h1 : gOk g with _ | _
  ·exact .inl rfl
  ·exact .inr fun h2 => h ⟨h1, h2⟩
theorem ZsO (l m : List Int) : Zaa Tryz.prog 140 [Zac l, Zac m] (.bool (decide (l = m))) := by
 refine kE Tryz.func140 ?_;intro hat B X w0;have hl := Zbf 0 hat rfl;have hm := Zbf 1 hat rfl;rw [List.length_map] at hl hm;by_cases hlm : l.length = m.length
 ·refine kw1 kc0 kc0 ?_;refine Zai (fun (k : Nat) => k ≤ l.length ∧ l.take k = m.take k) (fun k => [(0, .d (Zac l)), (1, .d (Zac m)), (5, .int k)]) (fun k => []) (fun k => l.length - k) 0 ?_ ?_ ?_
  ·exact ⟨Nat.zero_le _, rfl⟩
  ·exact kN kc0 []
  ·rintro k ⟨hk, hinv⟩;rcases Nat.lt_or_ge k l.length with hlt | hge
   ·obtain ⟨p, hp⟩ := Zad hlt;obtain ⟨q, hq⟩ := Zad (hlm ▸ hlt);refine kw (kc2 hp hq) kc0 ?_
    repeat' first | exact True.intro | refine Bn.mk ?_ ?_ | intro hc
    ·refine Zaj ?_;rw [decide_eq_false (ZfZ hp hq hc)]
    ·refine ⟨k + 1, ?_, eL [] _ _ (by refine ⟨?_, ?_⟩ <;> (repeat' first | exact fmn | refine fmc ⟨(by first | rfl | (simp (disch := omega) only [go_sem, simprocAttr, inL]; first | done | omega | (congr 1; done))), ?_⟩); done), ?_⟩
     ·exact ⟨by omega, by rw [ZaD hp, ZaD hq, hinv, hc]⟩
     ·omega
   ·refine kw1 kc0 kc0 ?_;refine Zaj ?_;rw [List.take_of_length_le hge, List.take_of_length_le (by omega)] at hinv;simp [hinv]
 ·refine kw1 kc0 kc0 ?_;refine Zaj ?_;rw [decide_eq_false];rintro rfl; exact hlm rfl
theorem Zq7 (l m : List (List Int)) : Zaa Tryz.prog 83 [Zae l, Zae m] (.bool (decide (l = m))) := by
 refine kE Tryz.func83 ?_;intro hat B X w0;have hl := Zbf 0 hat rfl;have hm := Zbf 1 hat rfl;rw [List.length_map] at hl hm;by_cases hlm : l.length = m.length
 ·refine kw1 kc0 kc0 ?_;refine Zai (fun (k : Nat) => k ≤ l.length ∧ l.take k = m.take k) (fun k => [(0, .d (Zae l)), (1, .d (Zae m)), (5, .int k)]) (fun k => []) (fun k => l.length - k) 0 ?_ ?_ ?_
  ·exact ⟨Nat.zero_le _, rfl⟩
  ·exact kN kc0 []
  ·rintro k ⟨hk, hinv⟩;rcases Nat.lt_or_ge k l.length with hlt | hge
   ·obtain ⟨p, hp⟩ := Zad hlt;obtain ⟨q, hq⟩ := Zad (hlm ▸ hlt);have he := ZsO p q;by_cases hpq : p = q
    ·rw [decide_eq_true hpq] at he;refine kw1 (kc2 hp hq) (kc1 he) ?_;refine ⟨k + 1, ?_, kN kc0 [], ?_⟩
     ·exact ⟨by omega, by rw [ZaD hp, ZaD hq, hinv, hpq]⟩
     ·omega
    ·rw [decide_eq_false hpq] at he;refine kw1 (kc2 hp hq) (kc1 he) ?_;refine Zaj ?_;rw [decide_eq_false (ZfZ hp hq hpq)]
   ·refine kw1 kc0 kc0 ?_;refine Zaj ?_;rw [List.take_of_length_le hge, List.take_of_length_le (by omega)] at hinv;simp [hinv]
 ·refine kw1 kc0 kc0 ?_;refine Zaj ?_;rw [decide_eq_false];rintro rfl; exact hlm rfl
theorem Zqw (l m : List (List Int)) : Zaa Tryz.prog 171 [Zae l, Zae m] (.bool (decide (l = m))) := by
 have h := ZyO l m;refine kE Tryz.func171 ?_;intro hat B X w0;refine kw1 kc0 (kc1 h) ?_;exact Zaj rfl
def Zes (a b : Lv) : Bool := decide (a.1 = b.1) && decide (a.2.1 = b.2.1) && decide (a.2.2.1 = b.2.2.1) && decide (a.2.2.2 = b.2.2.2)
theorem ZjV {a b : Lv} : Zes a b = true ↔ a = b := by
 obtain ⟨a1, a2, a3, a4⟩ := a;obtain ⟨b1, b2, b3, b4⟩ := b;simp [Zes, Prod.ext_iff, and_assoc]
theorem Zzn (a b : Lv) : Zaa Tryz.prog 107 [lvD a, lvD b] (.bool (Zes a b)) := by
 have h1 := Zqw a.2.1 b.2.1;have h2 := Zut a.2.2.1 b.2.2.1;have h3 := Zqw a.2.2.2 b.2.2.2;rw [Zes];by_cases e : a.1 = b.1
 ·rw [decide_eq_true e];rcases e1 : decide (a.2.1 = b.2.1) with _ | _ <;> rw [e1] at h1 <;> rcases e2 : decide (a.2.2.1 = b.2.2.1) with _ | _ <;> rw [e2] at h2 <;> rcases e3 : decide (a.2.2.2 = b.2.2.2) with _ | _ <;> rw [e3] at h3
  all_goals
   refine kE Tryz.func107 ?_;intro hat B X w0;refine kw1 (kc1 e) (kc3 h1 h2 h3) ?_;exact Zaj rfl
 ·rw [decide_eq_false e];refine kE Tryz.func107 ?_;intro hat B X w0;refine kw1 (kc1 e) (kc3 h1 h2 h3) ?_;exact Zaj rfl
theorem Zs7 (a b : Lv) : Zaa Tryz.prog 35 [lvD a, lvD b] (.bool (Zes a b)) := by
 have h1 := Zq7 a.2.1 b.2.1;have h3 := Zq7 a.2.2.2 b.2.2.2;obtain ⟨a1, a2, a3, a4⟩ := a;obtain ⟨b1, b2, b3, b4⟩ := b;dsimp only [Zes] at *;have fl : ∀ x : Bool, x = false → Zaa Tryz.prog 35 [lvD (a1, a2, a3, a4), lvD (b1, b2, b3, b4)] (.bool false) → Zaa Tryz.prog 35 [lvD (a1, a2, a3, a4), lvD (b1, b2, b3, b4)] (.bool x) := fun x hx h => hx ▸ h
 by_cases e : a1 = b1 ∧ a3.length = b3.length
 ·obtain ⟨rfl, e2⟩ := e;rcases e1 : decide (a2 = b2) with _ | _
  ·rw [e1] at h1;refine fl _ (by simp) ?_;refine kE Tryz.func35 ?_;intro hat B X w0;have hla := Zca 0 2 hat rfl rfl;have hlb := Zca 1 2 hat rfl rfl;rw [List.length_map] at hla hlb;dsimp only at hla hlb;refine kw1 (kc1 e2) (kc2 h1 h3) ?_;exact Zaj rfl
  ·rw [e1] at h1;rcases e4 : decide (a4 = b4) with _ | _
   ·rw [e4] at h3;refine fl _ (by simp) ?_;refine kE Tryz.func35 ?_;intro hat B X w0;have hla := Zca 0 2 hat rfl rfl;have hlb := Zca 1 2 hat rfl rfl;rw [List.length_map] at hla hlb;dsimp only at hla hlb;refine kw1 (kc1 e2) (kc2 h1 h3) ?_;exact Zaj rfl
   ·rw [e4] at h3;have er : (decide (a1 = a1) && true && decide (a3 = b3) && true) = decide (a3 = b3) := by simp
    rw [er];refine kE Tryz.func35 ?_;intro hat B X w0;have hla := Zca 0 2 hat rfl rfl;have hlb := Zca 1 2 hat rfl rfl;rw [List.length_map] at hla hlb;dsimp only at hla hlb;refine kw1 (kc1 e2) (kc2 h1 h3) ?_;refine Zai (fun (k : Nat) => k ≤ a3.length ∧ a3.take k = b3.take k) (fun k => [(2, .ptr 2 0 0 0), (3, .ptr 3 0 0 0), (5, .int k)]) (fun k => [(2, .cells [.int a1, .d (Zae a2), .d (Zak a3), .d (Zae a4)]), (3, .cells [.int a1, .d (Zae b2), .d (Zak b3), .d (Zae b4)])]) (fun k => a3.length - k) 0 ?_ ?_ ?_
    ·exact ⟨Nat.zero_le _, rfl⟩
    ·exact kN kc0 []
    ·rintro k ⟨hk, hinv⟩;rcases Nat.lt_or_ge k a3.length with hlt | hge
     ·obtain ⟨p, hp⟩ := Zad hlt;obtain ⟨q, hq⟩ := Zad (e2 ▸ hlt);refine kw (kc3 hp hq @ZoK) kc0 ?_
      repeat' first | exact True.intro | refine Bn.mk ?_ ?_ | intro hc
      ·refine Zaj ?_;rw [decide_eq_false (ZfZ hp hq hc)]
      ·refine ⟨k + 1, ?_, eL [] _ _ (by refine ⟨?_, ?_⟩ <;> (repeat' first | exact fmn | refine fmc ⟨(by first | rfl | (simp (disch := omega) only [go_sem, simprocAttr, inL]; first | done | omega | (congr 1; done))), ?_⟩); done), ?_⟩
       ·exact ⟨by omega, by rw [ZaD hp, ZaD hq, hinv, hc]⟩
       ·omega
     ·refine kw1 kc0 kc0 ?_;refine Zaj ?_;rw [List.take_of_length_le hge, List.take_of_length_le (by omega)] at hinv;simp [hinv]
 ·refine fl _ ?_ ?_
  ·rcases Decidable.em (a1 = b1) with h | h
   ·have h2 : ¬ a3 = b3 := fun h2 => e ⟨h, by rw [h2]⟩
    simp [h2]
   ·simp [h]
  ·refine kE Tryz.func35 ?_;intro hat B X w0;have hla := Zca 0 2 hat rfl rfl;have hlb := Zca 1 2 hat rfl rfl;rw [List.length_map] at hla hlb;dsimp only at hla hlb;by_cases h : a1 = b1
   ·have h2 : ¬ a3.length = b3.length := fun h2 => e ⟨h, h2⟩
    refine kw1 (kc1 h) (kc2 h1 h3) ?_;exact Zaj rfl
   ·refine kw1 (kc1 h) (kc2 h1 h3) ?_;exact Zaj rfl
def ZaN (ls : List (List Int)) (v : Int) : Int := ZcL (ls.findIdx? fun y => y.any fun x => decide (x = v))
def ZmG (ls : List (List Int)) (v : Int) : Int := match ls.findIdx? (fun y => y.any fun x => decide (x = v)) with
 | some k => placeF ((ls[k]?).getD []) v
 | none => -1
theorem ZqI (l : List Int) (v : Int) : decide (0 ≤ placeF l v) = l.any fun x => decide (x = v) := ZgJ _ l
theorem ZjB (a : Lv) (v : Int) : Zaa Tryz.prog 106 [lvD a, .int v] (.tup [.int (ZaN a.2.1 v), .int (ZmG a.2.1 v)]) := by
 obtain ⟨n, ls, ar, cs⟩ := a;refine kE Tryz.func106 ?_;intro hat B X w0;have hl := Zca 0 1 hat rfl rfl;rw [List.length_map] at hl;dsimp only at hl;refine kw1 kc0 kc0 ?_;refine Zai (fun (k : Nat) => k ≤ ls.length ∧ ∀ (j : Nat) y, j < k → ls[j]? = some y → (y.any fun x => decide (x = v)) = false) (fun k => [(1, .int v), (2, .ptr 2 0 0 0), (10, .d (Zae ls)), (11, .int ls.length), (12, .int k)]) (fun k => [(2, .cells [.int n, .d (Zae ls), .d (Zak ar), .d (Zae cs)])]) (fun k => ls.length - k) 0 ?_ ?_ ?_
 ·exact ⟨Nat.zero_le _, fun j y h => by omega⟩
 ·exact kN kc0 []
 ·rintro k ⟨hk, hinv⟩;rcases Nat.lt_or_ge k ls.length with hlt | hge
  ·obtain ⟨p, hp⟩ := Zad hlt;have hix := Zj2 p v;have hpi := ZqI p v;by_cases h0 : 0 ≤ placeF p v
   ·rw [decide_eq_true h0] at hpi;have hf : ls.findIdx? (fun y => y.any fun x => decide (x = v)) = some k := ZeE hp hpi.symm hinv;refine kw1 (kc1 hp) (kc1 hix) ?_;refine ⟨_, rfl, Zag ?_, Zag ?_, trivial⟩
    ·dsimp only [ZaN]; rw [hf]; rfl
    ·dsimp only [ZmG]; rw [hf]; dsimp only; rw [hp]; rfl
   ·rw [decide_eq_false h0] at hpi;refine kw1 (kc1 hp) (kc1 hix) ?_;refine ⟨k + 1, ?_, kN kc0 [], ?_⟩
    ·exact ⟨by omega, ZbK hinv hp hpi.symm⟩
    ·omega
  ·have hf : ls.findIdx? (fun y => y.any fun x => decide (x = v)) = none := Ze6 fun j y hy => hinv j y (by have := (List.getElem?_eq_some_iff.1 hy).1; omega) hy
   refine kw1 kc0 kc0 ?_;refine ⟨_, rfl, Zag ?_, Zag ?_, trivial⟩
   ·dsimp only [ZaN]; rw [hf]; rfl
   ·dsimp only [ZmG]; rw [hf]
def ZcA (a : Lv) : Lv := (a.1, a.2.1.map ZaF, a.2.2.1, a.2.2.2)
theorem Ztw (a : Lv) (hn : a.2.1.length ≤ 1000) (hl : ∀ y, y ∈ a.2.1 → y.length * 8 ≤ 140737488351232) : Zaa Tryz.prog 108 [lvD a] (lvD (ZcA a)) := by
 obtain ⟨n, ls, ar, cs⟩ := a;dsimp only at hn hl;refine kE Tryz.func108 ?_;intro hat B X w0;refine kw1 kc0 kc0 ?_;refine Zau _ (Zom 9 ls.length rfl) ?_;refine Zai (fun (k : Nat) => k ≤ ls.length) (fun k => [(1, .ptr 1 0 0 0), (2, .ptr 2 0 0 0), (3, .ref 9 1 0 ls.length ls.length), (11, .d (Zae ls)), (12, .int ls.length), (13, .int k)]) (fun k => [(1, .cells [.int n, .d (Zae ls), .d (Zak ar), .d (Zae cs)]), (2, .cells [.int 0, .nilS, .nilS, .nilS]), (9, .row 1 (((ls.map ZaF).take k).map Zac ++ List.replicate (ls.length - k) (.sl [])))]) (fun k => ls.length - k) 0 ?_ ?_ ?_
 ·exact Nat.zero_le _
 ·exact kN (kc4 @List.take_zero.{0} @List.map_nil.{0,0} @List.nil_append.{0} @Nat.sub_zero) []
 ·intro k hk;rcases Nat.lt_or_ge k ls.length with hlt | hge
  ·obtain ⟨p, hp⟩ := Zad hlt;have hpl := hl p (List.mem_of_getElem? hp);have hv := Zk2 p;have hs := ZmB p (by omega);have hm : (ls.map ZaF)[k]? = some (ZaF p) := by rw [List.getElem?_map, hp]; rfl
   have hst : (((ls.map ZaF).take k).map Zac ++ List.replicate (ls.length - k) (D.sl [])).set k (Zac (ZaF p)) = ((ls.map ZaF).take (k + 1)).map Zac ++ List.replicate (ls.length - (k + 1)) (D.sl []) := by
    have hlk : (((ls.map ZaF).take k).map Zac).length = k := by rw [List.length_map, List.length_take, List.length_map]; omega
    have e : ls.length - k = (ls.length - (k + 1)) + 1 := by omega
    rw [List.set_append, hlk, if_neg (by omega), Nat.sub_self, e, List.replicate_succ, List.set_cons_zero, ZaD hm, List.map_append, List.append_assoc];rfl
   have hLn : (((ls.map ZaF).take k).map Zac ++ List.replicate (ls.length - k) (D.sl [])).length = ls.length := by
    rw [List.length_append, List.length_map, List.length_take, List.length_map, List.length_replicate]; omega
   have hgk : (((ls.map ZaF).take k).map Zac ++ List.replicate (ls.length - k) (D.sl []))[k]? = some (D.sl []) := by
    rw [List.getElem?_append_right (by rw [List.length_map, List.length_take, List.length_map]; omega), List.length_map, List.length_take, List.length_map, Nat.min_eq_left (by omega), Nat.sub_self, List.getElem?_replicate, if_pos (by omega)]
   refine kw1 (kc3 hp hLn hgk) (kc2 hv hs) ?_;refine ⟨k + 1, ?_, kN (kc1 hst) [], ?_⟩
   ·omega
   ·omega
  ·have : k = ls.length := by omega
   subst this;have htl : ((ls.map ZaF).take ls.length) = ls.map ZaF := List.take_of_length_le (by rw [List.length_map]; exact Nat.le_refl _)
   try dsimp only
   rw [htl, Nat.sub_self];refine kw1 kc0 kc0 ?_;refine ⟨_, _, _, _, rfl, ?_⟩;simp (disch := omega) only [go_sem, simprocAttr, toD, List.replicate_zero, List.append_nil, List.length_map, List.take_of_length_le];rw [List.take_of_length_le (by rw [List.length_map, List.length_map]; exact Nat.le_refl _)];rfl
def Zcm (o : List Int) (x : Int) : Nat → Nat
 | 0 => 0
 | k + 1 => if x < at0 o k then Zcm o x k else k + 1
theorem ZmY (o : List Int) (x : Int) : ∀ k, Zcm o x k ≤ k
 | 0 => Nat.le_refl _
 | k + 1 => by rw [Zcm]; have := ZmY o x k; split <;> omega
def Zd9 (o : List Int) (x : Int) : List Int := o.take (Zcm o x o.length) ++ [x] ++ o.drop (Zcm o x o.length)
theorem ZzL (o : List Int) (x : Int) : (Zd9 o x).length = o.length + 1 := by
 have := ZmY o x o.length;simp only [Zd9, List.length_append, List.length_take, List.length_drop, List.length_cons, List.length_nil];omega
def Zdi (l : List Int) : Nat → List Int
 | 0 => []
 | k + 1 => Zd9 (Zdi l k) (at0 l k)
theorem ZpN (l : List Int) : ∀ k, (Zdi l k).length = k
 | 0 => rfl
 | k + 1 => by rw [Zdi, ZzL, ZpN l k]
theorem ZqV (r : List Int) (k : Nat) : ∀ d, d ∈ (List.map D.int r).take k → d.cells.length = 1 := fun d hd => Zep r d (List.mem_of_mem_take hd)
theorem Zqo (r : List Int) (k : Nat) : ∀ d, d ∈ (List.map D.int r).drop k → d.cells.length = 1 := fun d hd => Zep r d (List.mem_of_mem_drop hd)
theorem Zo1 (r : List Int) (k j : Nat) : ∀ d, d ∈ ((List.map D.int r).drop k).take j → d.cells.length = 1 := fun d hd => Zep r d (List.mem_of_mem_drop (List.mem_of_mem_take hd))
theorem ZAb (l : List Int) (hl : l.length ≤ 1000) : Zaa Tryz.prog 114 [Zac l] (Zac (Zdi l l.length)) := by
 refine kE Tryz.func114 ?_;intro hat B X w0;refine kw1 kc0 kc0 ?_;refine Zau _ (Zd5 3 900 1 rfl rfl) ?_;refine Zai (fun (i : Nat) => i ≤ l.length) (fun i => [(0, .d (Zac l)), (3, .ref 900 1 0 i i), (4, .int i)]) (fun i => [(900, .row 1 ((Zdi l i).map D.int))]) (fun i => l.length - i) 0 ?_ ?_ ?_
 ·exact Nat.zero_le _
 ·exact kN (kc2 @Zdi.eq_1 @List.map_nil.{0,0}) []
 ·intro i hi;have hil := ZpN l i;rcases Nat.lt_or_ge i l.length with hlt | hge
  ·have gi := ZaS hlt;have his : Zdi l (i + 1) = Zd9 (Zdi l i) (at0 l i) := rfl;generalize at0 l i = x at gi his;generalize hO : Zdi l i = O at hil his ⊢;refine kw1 kc0 kc0 ?_;refine Zai (fun (k : Nat) => k ≤ i ∧ Zcm O x k = Zcm O x i) (fun k => [(0, .d (Zac l)), (3, .ref 900 1 0 i i), (4, .int i), (5, .int k)]) (fun k => [(900, .row 1 (O.map D.int))]) (fun k => k) i ?_ ?_ ?_
   ·exact ⟨Nat.le_refl _, rfl⟩
   ·exact kN kc0 []
   ·rintro k ⟨hk, hinv⟩;rcases Nat.eq_zero_or_pos k with h0 | h0
    ·subst h0;have en : ((0 : Nat) : Int).toNat = 0 := rfl;have hmn : min 0 i = 0 := by omega
     have htO : List.take i (List.map D.int O) = List.map D.int O := List.take_of_length_le (by rw [List.length_map]; omega);have htl : (List.map D.int O).length = i := by rw [List.length_map, hil]
     repeat' first | refine Zbk rfl ?_ | refine Za1 ?_ | refine ZcI (Nat.beq 31) ZbV ?_ | (refine Zbn rfl rfl (fun hc => ?_) (fun hc => ?_) <;> try simp only [hcL] at hc) | (refine Zbl _ rfl rfl (fun hc => ?_) (fun hc => ?_) <;> (try simp only [hcL] at hc) <;> try omega) | simp (disch := omega) only [go_sem, simprocAttr, gi, en, roomy, hk, hil, List.drop_zero, List.nil_append, Nat.sub_zero, List.take_take, Nat.min_self, hmn, htO, htl] | (first | exact Zep _ | exact ZqV _ _ | exact Zqo _ _ | exact Zo1 _ _ _) | apply And.intro | omega | decide +kernel
     have hins : Zd9 O x = x :: O := by rw [Zd9, hil, ← hinv]; simp [Zcm]
     refine ⟨i + 1, ?_, kN (kc3 his hins @List.map_cons.{0,0}) [(900, 47)], ?_⟩
     ·omega
     ·omega
    ·obtain ⟨k, rfl⟩ : ∃ m, k = m + 1 := ⟨k - 1, by omega⟩;have gk := ZaS (r := O) (i := k) (by omega);have ek : (((k + 1 : Nat) : Int) - 1).toNat = k := by omega
     have en : (((k + 1 : Nat) : Int)).toNat = k + 1 := by omega
     have hmn : min (k + 1) i = k + 1 := by omega
     have htl : (List.take (k + 1) (List.map D.int O)).length = k + 1 := by rw [List.length_take, List.length_map]; omega
     have htO : List.take (i - (k + 1)) (List.drop (k + 1) (List.map D.int O)) = List.drop (k + 1) (List.map D.int O) := List.take_of_length_le (by rw [List.length_drop, List.length_map]; omega);have htd : (List.drop (k + 1) (List.map D.int O)).length = i - (k + 1) := by rw [List.length_drop, List.length_map]; omega
     have hif : k + 1 + (i - (k + 1)) = i := by omega
     have ht2 : List.take (k + 1 + 1) (List.take (k + 1) (List.map D.int O) ++ [D.sc (Value.int IntKind.i64 x)]) = List.take (k + 1) (List.map D.int O) ++ [D.int x] := List.take_of_length_le (by rw [List.length_append, htl]; exact Nat.le_refl _);rw [Zcm] at hinv;by_cases hx : x < at0 O k
     ·rw [if_pos hx] at hinv;refine kw1 (kc3 gi gk ek) kc0 ?_;refine ⟨k, ?_, kN (kc3 @Int.natCast_add @Int.natCast_one @Int.add_sub_cancel) [], ?_⟩
      ·exact ⟨by omega, hinv⟩
      ·omega
     ·rw [if_neg hx] at hinv
      repeat' first | refine Zbk rfl ?_ | refine Za1 ?_ | refine ZcI (Nat.beq 31) ZbV ?_ | (refine Zbn rfl rfl (fun hc => ?_) (fun hc => ?_) <;> try simp only [hcL] at hc) | (refine Zbl _ rfl rfl (fun hc => ?_) (fun hc => ?_) <;> (try simp only [hcL] at hc) <;> try omega) | simp (disch := omega) only [go_sem, simprocAttr, gi, gk, ek, en, roomy, hk, hil, List.drop_zero, List.nil_append, Nat.sub_zero, List.take_take, Nat.min_self, hmn, htO, htl, htd, hif, Nat.le_refl, List.length_append, List.length_cons, List.length_nil, Nat.zero_add] | (first | exact Zep _ | exact ZqV _ _ | exact Zqo _ _ | exact Zo1 _ _ _) | apply And.intro | omega | decide +kernel
      have hins : Zd9 O x = O.take (k + 1) ++ [x] ++ O.drop (k + 1) := by rw [Zd9, hil, ← hinv]
      refine ⟨i + 1, ?_, kN (kc6 his hins ht2 @List.map_append.{0,0} @List.map_take.{0,0} @List.map_drop.{0,0}) [(900, 47)], ?_⟩
      ·omega
      ·omega
  ·have : i = l.length := by omega
   subst this;refine kw1 kc0 kc0 ?_;exact Zdf (o := 900) rfl rfl (by simp [hil]) (List.take_of_length_le (by simp [hil]))
theorem Zn7 (o : List Int) (x : Int) : ∀ (k j : Nat), Zcm o x k ≤ j → j < k → x < at0 o j
 | 0, j, _, h => by omega
 | k + 1, j, h1, h2 => by
  rw [Zcm] at h1;split at h1
  ·rename_i hx;rcases Nat.lt_or_ge j k with h | h
   ·exact Zn7 o x k j h1 h
   ·rw [show j = k by omega]; exact hx
  ·omega
theorem ZoD (o : List Int) (x : Int) : ∀ (k p : Nat), Zcm o x k = p + 1 → at0 o p ≤ x
 | 0, p, h => by rw [Zcm] at h; omega
 | k + 1, p, h => by
  rw [Zcm] at h;split at h
  ·exact ZoD o x k p h
  ·rename_i hx;rw [show p = k by omega]; omega
theorem Zx4 (o : List Int) (x : Int) : (Zd9 o x).Perm (x :: o) := by
 rw [Zd9, List.append_assoc, List.singleton_append];refine List.perm_middle.trans ?_;rw [List.take_append_drop]
theorem Zs4 {o : List Int} (h : o.Pairwise (· ≤ ·)) (x : Int) : (Zd9 o x).Pairwise (· ≤ ·) := by
 have hlo : ∀ a, a ∈ o.take (Zcm o x o.length) → a ≤ x := by
  intro a ha;obtain ⟨j, hj⟩ := List.mem_iff_getElem?.1 ha;rw [List.getElem?_take] at hj;split at hj
  ·rename_i hjp;obtain ⟨p, hp⟩ : ∃ p, Zcm o x o.length = p + 1 := ⟨Zcm o x o.length - 1, by omega⟩;have h1 := ZoD o x o.length p hp;have h2 := ZmY o x o.length;have h3 := ZaS (r := o) (i := p) (by omega);rcases Nat.lt_or_ge j p with hl | hl
   ·have h4 := (List.getElem?_eq_some_iff.1 hj);obtain ⟨h5, h6⟩ := h4;obtain ⟨h7, h8⟩ := List.getElem?_eq_some_iff.1 h3;have := List.pairwise_iff_getElem.1 h j p h5 h7 hl;rw [h6, h8] at this;exact Int.le_trans this h1
   ·have : j = p := by omega
    subst this;rw [h3] at hj;cases hj;exact h1
  ·cases hj
 have hhi : ∀ a, a ∈ o.drop (Zcm o x o.length) → x ≤ a := by
  intro a ha;obtain ⟨j, hj⟩ := List.mem_iff_getElem?.1 ha;rw [List.getElem?_drop] at hj;have hlt : Zcm o x o.length + j < o.length := (List.getElem?_eq_some_iff.1 hj).1;have h1 := Zn7 o x o.length (Zcm o x o.length + j) (by omega) hlt;rw [ZaS hlt] at hj;cases hj;omega
 rw [Zd9];refine List.pairwise_append.2 ⟨List.pairwise_append.2 ⟨h.sublist (List.take_sublist _ _), List.pairwise_singleton _ _, fun a ha b hb => ?_⟩, h.sublist (List.drop_sublist _ _), fun a ha b hb => ?_⟩
 ·rw [List.mem_singleton.1 hb]; exact hlo a ha
 ·rcases List.mem_append.1 ha with ha | ha
  ·exact Int.le_trans (hlo a ha) (hhi b hb)
  ·rw [List.mem_singleton.1 ha]; exact hhi b hb
theorem Zpq (l : List Int) : ∀ k, k ≤ l.length → (Zdi l k).Perm (l.take k)
 | 0, _ => by simp [Zdi]
 | k + 1, h => by
  rw [Zdi, ZaD (ZaS (r := l) (i := k) (by omega))];exact (Zx4 _ _).trans (((Zpq l k (by omega)).cons _).trans (List.perm_append_singleton _ _).symm)
theorem Znu (l : List Int) : ∀ k, (Zdi l k).Pairwise (· ≤ ·)
 | 0 => List.Pairwise.nil
 | k + 1 => by rw [Zdi]; exact Zs4 (Znu l k) _
theorem ZlI (l : List Int) : (ZaF l).Pairwise (· ≤ ·) := by
 have h := List.pairwise_mergeSort (le := fun x y : Int => decide (x ≤ y)) (by intro a b c h1 h2; simp only [decide_eq_true_eq] at *; omega) (by intro a b; simp only [Bool.or_eq_true, decide_eq_true_eq]; omega) l;exact h.imp fun h => by simpa using h
theorem ZhK (l : List Int) : (ZaF l).Perm l := List.mergeSort_perm _ _
theorem ZzB (l : List Int) : Zdi l l.length = ZaF l := by
 refine List.Perm.eq_of_pairwise (le := (· ≤ ·)) (fun a b _ _ h1 h2 => Int.le_antisymm h1 h2) (Znu l _) (ZlI l) ?_;have := Zpq l l.length (Nat.le_refl _);rw [List.take_length] at this;exact this.trans (ZhK l).symm
theorem ZwY (l : List Int) (hl : l.length ≤ 1000) : Zaa Tryz.prog 114 [Zac l] (Zac (ZaF l)) := ZzB l ▸ ZAb l hl
theorem Zze (a : Lv) (hn : a.2.1.length ≤ 1000) (hl : ∀ y, y ∈ a.2.1 → y.length ≤ 1000) : Zaa Tryz.prog 56 [lvD a] (lvD (ZcA a)) := by
 obtain ⟨n, ls, ar, cs⟩ := a;dsimp only at hn hl;refine kE Tryz.func56 ?_;intro hat B X w0;refine kw1 kc0 kc0 ?_;refine Zau _ (Zcy 3 1 901 1 rfl rfl rfl) ?_;refine Zai (fun (k : Nat) => k ≤ ls.length) (fun k => [(1, .ptr 1 0 0 0), (2, .ptr 2 0 0 0), (3, .ptr 3 0 0 0), (4, .int k)]) (fun k => [(1, .cells [.int n, .d (Zae ls), .d (Zak ar), .d (Zae cs)]), (2, .cells [.int 0, .nilS, .nilS, .nilS]), (3, .cells [.int n, .ref 901 1 0 k k, .d (Zak ar), .d (Zae cs)]), (901, .row 1 (((ls.map ZaF).take k).map Zac))]) (fun k => ls.length - k) 0 ?_ ?_ ?_
 ·exact Nat.zero_le _
 ·exact kN (kc2 @List.take_zero.{0} @List.map_nil.{0,0}) []
 ·intro k hk;rcases Nat.lt_or_ge k ls.length with hlt | hge
  ·obtain ⟨p, hp⟩ := Zad hlt;have hpl := hl p (List.mem_of_getElem? hp);have hs := ZwY p hpl;have hm : (ls.map ZaF)[k]? = some (ZaF p) := by rw [List.getElem?_map, hp]; rfl
   have hts := ZaD hm;have hlk : (((ls.map ZaF).take k).map Zac).length = k := by rw [List.length_map, List.length_take, List.length_map]; omega
   have htk : List.take k (((ls.map ZaF).take k).map Zac) = ((ls.map ZaF).take k).map Zac := List.take_of_length_le (by rw [hlk]; exact Nat.le_refl _);refine kw1 (kc2 hp hlk) (kc1 hs) ?_;refine ⟨k + 1, ?_, kN (kc3 hts @List.map_append.{0,0} htk) [(901, 28)], ?_⟩
   ·omega
   ·omega
  ·have : k = ls.length := by omega
   subst this;have htl : ((ls.map ZaF).take ls.length) = ls.map ZaF := List.take_of_length_le (by rw [List.length_map]; exact Nat.le_refl _)
   try dsimp only
   rw [htl];refine kw1 kc0 kc0 ?_;refine ⟨_, _, _, _, rfl, ?_⟩;simp (disch := omega) only [go_sem, simprocAttr, toD, List.length_map];rw [List.take_of_length_le (by rw [List.length_map, List.length_map]; exact Nat.le_refl _)];rfl
theorem Zh9 (a b : Int) : (if b < a then b else a) = min a b := by omega
def Za9 (g : Nat → Int) (n k : Nat) : List Int := (List.range n).map fun u => if u < k then g u else 0
theorem Zdz (g : Nat → Int) (n k : Nat) : (Za9 g n k).length = n := by simp [Za9]
theorem Ze2 {g : Nat → Int} {n k u : Nat} (h : u < n) : (Za9 g n k)[u]? = some (if u < k then g u else 0) := by simp [Za9, h]
theorem Zi0 (g : Nat → Int) (n : Nat) : (Za9 g n 0).map D.int = List.replicate n (D.int 0) := by
 rw [List.eq_replicate_iff];refine ⟨by simp [Za9], fun b hb => ?_⟩;simp only [Za9, List.map_map, List.mem_map] at hb;obtain ⟨u, _, rfl⟩ := hb;simp
theorem ZiO {g : Nat → Int} {n k : Nat} (h : k < n) : (Za9 g n k).set k (g k) = Za9 g n (k + 1) := by
 refine List.ext_getElem? fun u => ?_
 by_cases hu : u < n
 ·rw [Ze2 hu, List.getElem?_set, Ze2 hu, Zdz];by_cases c : k = u
  ·subst c; rw [if_pos rfl, if_pos h, if_pos (by omega)]
  ·rw [if_neg c];by_cases c2 : u < k
   ·rw [if_pos c2, if_pos (by omega)]
   ·rw [if_neg c2, if_neg (by omega)]
 ·rw [List.getElem?_eq_none (by rw [List.length_set, Zdz]; omega), List.getElem?_eq_none (by rw [Zdz]; omega)]
theorem ZiV (g : Nat → Int) (n : Nat) : Za9 g n n = (List.range n).map g := by
 rw [Za9];refine List.map_congr_left fun u hu => ?_
 rw [if_pos (List.mem_range.1 hu)]

theorem Zqr {ds cs : List D} {l : List D} {m : List D} {k : Nat} (i j : Nat) (h : ∃ w X vs, Zgy w X ds vs) (hi : ds[i]? = some (.ag cs)) (hj : cs[j]? = some (.sl l)) (hk : l[k]? = some (.sl m)) : m.length ≤ 9223372036854775807 := by
 obtain ⟨w, X, vs, h1, h2⟩ := h;have hlt : i < vs.size := by have := (List.getElem?_eq_some_iff.1 hi).1; omega
 have := h2 i _ _ hi (Array.getElem?_eq_getElem hlt);generalize vs[i] = v at this;cases this with
 | ag _ arr hsz hone hat =>
  have hlt : j < arr.size := by have := (List.getElem?_eq_some_iff.1 hj).1; omega
  have := hat j _ _ hj (Array.getElem?_eq_getElem hlt);generalize arr[j] = v at this;cases this with
  | slnil => cases hk
  | sl _ b off cap sz hl hc hsz vals hv he =>
   have := he k _ 0 _ hk rfl;generalize vals k 0 = v at this;cases this with
   | slnil => simp
   | sl _ b off cap sz hl hc => simp only [maxLen] at hc; omega
def Zb6 (c : List Int) : Arc := (at0 c 0, at0 c ((c.length : Int) - 1))
def ZaV (a : Lv) : Gr := (a.1, a.2.2.2.map Zb6)
def Za0 (a : Lv) : List Int := (List.range a.1.toNat).map fun v : Nat => ZaN a.2.1 v
def ZfY (a : Lv) : Bool := decide (0 ≤ a.1 ∧ a.1 ≤ 64 ∧ a.2.2.2.length ≤ 256 ∧ a.2.1.length ≤ 256)
def Zdy (c : List Int) : Bool := decide (c.length < 2)
def ZgD (a : Lv) (v : Nat) : Bool := decide (ZaN a.2.1 v < 0)
def Zfu (a : Lv) : Bool := !(List.range a.1.toNat).any (ZgD a)
def Zaw (a : Lv) : Bool := ZfY a && !a.2.2.2.any Zdy && Zfu a && decide ((ZaH (ZaV a) (Za0 a)).2 = 0) && Zes (ZcA a) (ZaH (ZaV a) (Za0 a)).1
def wide (a : Lv) : Prop := ∀ y, y ∈ a.2.1 → y.length * 8 ≤ 140737488351232
theorem ZgB (a : Lv) (hw : wide a) : Zaa Tryz.prog 51 [lvD a] (.bool (Zaw a)) := by
 have hfd := ZjB a;have hbd := Zn8 (ZaV a) (Za0 a);have hsd := Ztw a;have hsm := Zzn (ZcA a) (ZaH (ZaV a) (Za0 a)).1;obtain ⟨m, ls, ar, cs⟩ := a;refine kE Tryz.func51 ?_;intro hat B X w0;have h1 := Zca 0 1 hat rfl rfl;have h2 := Zca 0 2 hat rfl rfl;have h3 := Zca 0 3 hat rfl rfl;rw [List.length_map] at h1 h2 h3;dsimp only at h1 h2 h3;refine kw kc0 kc0 ?_
 repeat' first | exact True.intro | refine Bn.mk ?_ ?_ | intro hc
 all_goals try (refine Zaj ?_; simp [Zaw, ZfY]; omega)
 obtain ⟨n, rfl⟩ : ∃ n : Nat, m = n := ⟨m.toNat, by omega⟩;have hhd : ZfY ((n : Int), ls, ar, cs) = true := by simp [ZfY]; omega
 have hn64 : n ≤ 64 := by omega
 have hc256 : cs.length ≤ 256 := by omega
 have hl256 : ls.length ≤ 256 := by omega
 refine Zau _ (Zcy 3 1 901 2 rfl rfl rfl) ?_;refine Zai (fun (k : Nat) => k ≤ cs.length ∧ ∀ (j : Nat) y, j < k → cs[j]? = some y → Zdy y = false) (fun k => [(1, .ptr 1 0 0 0), (3, .ptr 3 0 0 0), (34, .d (Zae cs)), (35, .int cs.length), (36, .int k)]) (fun k => [(1, .cells [.int n, .d (Zae ls), .d (Zak ar), .d (Zae cs)]), (3, .cells [.int n, .ref 901 2 0 k k]), (901, .row 2 (((cs.take k).map Zb6).map ZaU))]) (fun k => cs.length - k) 0 ?_ ?_ ?_
 ·exact ⟨Nat.zero_le _, fun j y h => by omega⟩
 ·exact kN (kc2 @List.take_zero.{0} @List.map_nil.{0,0}) []
 ·rintro k ⟨hk, hinv⟩;rcases Nat.lt_or_ge k cs.length with hlt | hge
  ·obtain ⟨c, hc0⟩ := Zad hlt;by_cases hsc : c.length < 2
   ·refine kw1 (kc1 hc0) kc0 ?_;refine Zaj ?_;have : cs.any Zdy = true := Zc6 hc0 (by simpa [Zdy] using hsc);simp [Zaw, this]
   ·have hcl : c.length ≤ 9223372036854775807 := by have := Zqr (m := c.map D.int) (k := k) 0 3 hat rfl rfl (by rw [List.getElem?_map, hc0]; rfl); rwa [List.length_map] at this
    have e1 := ZaS (r := c) (i := 0) (by omega);have e2 := ZeD (r := c) (v := (c.length : Int) - 1) (by omega) (by omega);have hts := ZaD hc0;have hlk : (((cs.take k).map Zb6).map ZaU).length = k := by rw [List.length_map, List.length_map, List.length_take]; omega
    have htk : List.take k (((cs.take k).map Zb6).map ZaU) = ((cs.take k).map Zb6).map ZaU := List.take_of_length_le (by rw [hlk]; exact Nat.le_refl _);refine kw1 (kc4 hc0 e1 e2 hlk) kc0 ?_;refine ⟨k + 1, ?_, kN (kc3 hts @List.map_append.{0,0} htk) [(901, 56)], ?_⟩
    ·exact ⟨by omega, ZbK hinv hc0 (by simpa [Zdy] using hsc)⟩
    ·omega
  ·have : k = cs.length := by omega
   subst this;have hsc : cs.any Zdy = false := ZdT fun j y hj => hinv j y hj
   try dsimp only
   rw [List.take_length];refine ZnA ⟨Nat.beq 61, ⟨⟩⟩ kc0 kc0 ?_;refine Zai (fun (v : Nat) => v ≤ n ∧ ∀ u, u < v → ZgD (n, ls, ar, cs) u = false) (fun v => [(1, .ptr 1 0 0 0), (3, .ptr 3 0 0 0), (6, .ref 61 1 0 n n), (63, .int n), (64, .int v)]) (fun v => [(1, .cells [.int n, .d (Zae ls), .d (Zak ar), .d (Zae cs)]), (3, .cells [.int n, .ref 901 2 0 cs.length cs.length]), (901, .row 2 ((cs.map Zb6).map ZaU)), (61, .row 1 ((Za9 (fun u => ZaN ls u) n v).map D.int))]) (fun v => n - v) 0 ?_ ?_ ?_
   ·exact ⟨Nat.zero_le _, fun u h => by omega⟩
   ·exact kN (kc1 @Zi0) []
   ·rintro v ⟨hv, hinv2⟩;have hfl := Zdz (fun u => ZaN ls u) n v;rcases Nat.lt_or_ge v n with hlt | hge
    ·have hg := Ze2 (g := fun u => ZaN ls u) (k := v) hlt;have hst := ZiO (g := fun u => ZaN ls u) hlt;have hsm : (List.map D.int (Za9 (fun u => ZaN ls u) n v)).set v (D.sc (Value.int IntKind.i64 (ZaN ls v))) = List.map D.int (Za9 (fun u => ZaN ls u) n (v + 1)) := by rw [← hst, List.map_set]
     have hfl2 := Zdz (fun u => ZaN ls u) n (v + 1);have hg2 := Ze2 (g := fun u => ZaN ls u) (k := v + 1) hlt;rw [if_pos (by omega)] at hg2;have hf := hfd v;dsimp only at hf;by_cases hn : ZaN ls v < 0
     ·have hfo : Zfu ((n : Int), ls, ar, cs) = false := by
       rw [Zfu, Bool.not_eq_false', List.any_eq_true];exact ⟨v, by simpa using hlt, by simpa [ZgD] using hn⟩
      refine kw1 (kc5 hg hsm hg2 hfl hfl2) (kc1 hf) ?_;refine Zaj ?_;simp [Zaw, hfo]
     ·refine kw1 (kc5 hg hsm hg2 hfl hfl2) (kc1 hf) ?_;refine ⟨v + 1, ?_, kN (kc1 hsm) [], ?_⟩
      ·refine ⟨by omega, fun u hu => ?_⟩;rcases Nat.lt_succ_iff_lt_or_eq.1 hu with h | rfl
       ·exact hinv2 u h
       ·simpa [ZgD] using hn
      ·omega
    ·have : v = n := by omega
     subst this;have hfo : Zfu ((v : Int), ls, ar, cs) = true := by
      rw [Zfu, Bool.not_eq_true', List.any_eq_false];intro u hu;rw [hinv2 u (by simpa using hu)]
      decide
     have hre : Za9 (fun u => ZaN ls u) v v = Za0 ((v : Int), ls, ar, cs) := by rw [ZiV, Za0]; rfl
     have hsg : ZaV ((v : Int), ls, ar, cs) = ((v : Int), cs.map Zb6) := rfl
     try dsimp only
     rw [hre];rw [hsg] at hbd hsm;have hvf : Zaw ((v : Int), ls, ar, cs) = (decide ((ZaH ((v : Int), cs.map Zb6) (Za0 ((v : Int), ls, ar, cs))).2 = 0) && Zes (ZcA ((v : Int), ls, ar, cs)) (ZaH ((v : Int), cs.map Zb6) (Za0 ((v : Int), ls, ar, cs))).1) := by rw [Zaw, hhd, hsc, hfo, hsg]; simp
     rw [hvf];have hrl : (Za0 ((v : Int), ls, ar, cs)).length = v := by simp [Za0]
     generalize Za0 ((v : Int), ls, ar, cs) = R at *;generalize ZaH ((v : Int), cs.map Zb6) R = BF at *;obtain ⟨b, e⟩ := BF;have hsd1 := hsd (by simpa using (show ls.length ≤ 1000 by omega)) hw;generalize ZcA ((v : Int), ls, ar, cs) = S at *;dsimp only at hbd hsm ⊢;have htA : ((cs.map Zb6).map ZaU).take cs.length = (cs.map Zb6).map ZaU := List.take_of_length_le (by simp);have htR : (R.map D.int).take v = R.map D.int := List.take_of_length_le (by simp [hrl]);have hlA : ((cs.map Zb6).map ZaU).length = cs.length := by simp
     have hlR : (R.map D.int).length = v := by simp [hrl]
     refine Zau _ (Zc8 901 2 ((cs.map Zb6).map ZaU) rfl (ZcR _ rfl) (by decide)) ?_;refine kR (kc4 @List.drop_zero.{0} htA hlA @Nat.le_refl) [] [(1, .ptr 1 0 0 0), (3, .ptr 3 0 0 0), (6, .ref 61 1 0 v v), (63, .int v), (64, .int v)] [(1, .cells [.int v, .d (Zae ls), .d (Zak ar), .d (Zae cs)]), (3, .cells [.int v, .d (Zak (cs.map Zb6))]), (61, .row 1 (R.map D.int))] ?_;refine Zau _ (Zc8 61 1 (R.map D.int) rfl (ZcR _ rfl) (by decide)) ?_;by_cases he : e = 0
     ·subst he;rcases hsv : Zes S b with _ | _ <;> rw [hsv] at hsm
      all_goals
       refine kw1 (kc3 htR hlR @List.drop_zero.{0}) (kc3 hbd hsd1 hsm) ?_;refine Zaj ?_;simp [hsv]
     ·refine kw1 (kc4 he htR hlR @List.drop_zero.{0}) (kc3 hbd hsd1 hsm) ?_;refine Zaj ?_;simp [he]
def tot : List (List Int) → Nat
 | [] => 0
 | y :: l => y.length + tot l
theorem Zqj (l m : List (List Int)) : tot (l ++ m) = tot l + tot m := by
 induction l with
 | nil => simp [tot]
 | cons y l ih => simp only [List.cons_append, tot, ih]; omega
theorem ZpB {l : List (List Int)} {k : Nat} {y : List Int} (h : l[k]? = some y) : tot (l.take (k + 1)) = tot (l.take k) + y.length := by
 rw [ZaD h, Zqj]; simp [tot]
theorem Zpc (l : List (List Int)) (k : Nat) : tot (l.take k) ≤ tot l := by
 conv => rhs; rw [← List.take_append_drop k l]
 rw [Zqj]; omega
theorem Zjr (l : List (List Int)) : l.flatten.length = tot l := by
 induction l with
 | nil => rfl
 | cons y l ih => simp only [List.flatten_cons, List.length_append, tot, ih]
theorem ZcM {l : List (List Int)} {y : List Int} (h : y ∈ l) : y.length ≤ tot l := by
 induction l with
 | nil => cases h
 | cons x l ih =>
  rw [tot];rcases List.mem_cons.1 h with rfl | h
  ·omega
  ·have := ih h; omega
def Zcu (c : Nat) (ls : List (List Int)) : Bool := ls.flatten.all (fun v => decide (0 ≤ v ∧ v < c)) && decide ls.flatten.Nodup
def ZbZ (c : Nat) (ls : List (List Int)) : List Int := (List.range c).map fun v : Nat => ZaN ls v
def Zb9 (ls : List (List Int)) : Option (List Int) := if 256 < ls.length ∨ 512 < tot ls then none else if Zcu (tot ls) ls then some (ZbZ (tot ls) ls) else none
theorem Zey (c : Nat) (ls : List (List Int)) : (ZbZ c ls).length = c := by simp [ZbZ]
theorem ZiS {c v : Nat} (h : v < c) (ls : List (List Int)) : (ZbZ c ls)[v]? = some (ZaN ls v) := by simp [ZbZ, h]
theorem Zfd {ls : List (List Int)} {v : Int} : 0 ≤ ZaN ls v ↔ v ∈ ls.flatten := by
 have h := ZgJ (fun y : List Int => y.any fun x => decide (x = v)) ls;have : decide (0 ≤ ZaN ls v) = true ↔ v ∈ ls.flatten := by
  rw [ZaN, h, List.any_eq_true, List.mem_flatten];constructor
  ·rintro ⟨y, h1, h2⟩;obtain ⟨x, h3, h4⟩ := List.any_eq_true.1 h2;have : x = v := by simpa using h4
   exact ⟨y, h1, this ▸ h3⟩
  ·rintro ⟨y, h1, h2⟩;exact ⟨y, h1, List.any_eq_true.2 ⟨v, h2, by simp⟩⟩
 simpa using this
theorem Zmm {ls : List (List Int)} {v : Int} (h : v ∉ ls.flatten) : ZaN ls v = -1 := by
 have h2 : ¬ 0 ≤ ZaN ls v := fun h1 => h (Zfd.1 h1)
 unfold ZaN at h2 ⊢;unfold ZcL at h2 ⊢;split
 ·rename_i i hi; rw [hi] at h2; dsimp only at h2; omega
 ·rfl
theorem Zqp (ls : List (List Int)) (y : List Int) (v : Int) : ZaN (ls ++ [y]) v = if v ∈ ls.flatten then ZaN ls v else if v ∈ y then (ls.length : Int) else -1 := by
 by_cases h1 : v ∈ ls.flatten
 ·rw [if_pos h1];have h2 := Zfd.2 h1;unfold ZaN at h2 ⊢;rw [List.findIdx?_append];cases hf : ls.findIdx? (fun y => y.any fun x => decide (x = v)) with
  | none => rw [hf] at h2; exact absurd h2 (by decide)
  | some i => rfl
 ·rw [if_neg h1];have h2 := Zmm h1;by_cases h3 : v ∈ y
  ·rw [if_pos h3];unfold ZaN at h2 ⊢;rw [List.findIdx?_append];cases hf : ls.findIdx? (fun y => y.any fun x => decide (x = v)) with
   | some i => rw [hf] at h2; simp only [ZcL] at h2; omega
   | none =>
    have : (y.any fun x => decide (x = v)) = true := List.any_eq_true.2 ⟨v, h3, by simp⟩;rw [List.findIdx?_cons, if_pos this];simp [ZcL]
  ·rw [if_neg h3];refine Zmm ?_;rw [List.flatten_append, List.mem_append];rintro (h | h)
   ·exact h1 h
   ·exact h3 (by simpa using h)
def pre (ls : List (List Int)) (i k : Nat) : List (List Int) := ls.take i ++ [((ls[i]?).getD []).take k]
theorem Zzi (ls : List (List Int)) {i k : Nat} {y : List Int} (h : ls[i]? = some y) : ls.flatten = (pre ls i k).flatten ++ (y.drop k ++ (ls.drop (i + 1)).flatten) := by
 have hd : ls.drop i = y :: ls.drop (i + 1) := by
  obtain ⟨hi, he⟩ := List.getElem?_eq_some_iff.1 h;rw [← he]; exact List.drop_eq_getElem_cons hi
 conv => lhs; rw [← List.take_append_drop i ls, hd, List.flatten_append, List.flatten_cons]
 rw [pre, h, List.flatten_append];simp only [Option.getD_some, List.flatten_cons, List.flatten_nil, List.append_nil]
 conv => lhs; rw [← List.take_append_drop k y]
 simp only [List.append_assoc]
theorem ZtD (ls : List (List Int)) {i k : Nat} {y : List Int} {v : Int} (h : ls[i]? = some y) (hv : y[k]? = some v) : (pre ls i (k + 1)).flatten = (pre ls i k).flatten ++ [v] := by
 simp only [pre, h, Option.getD_some, List.flatten_append, List.flatten_cons, List.flatten_nil, List.append_nil, ZaD hv, List.append_assoc]
theorem Zwx {c : Nat} (ls : List (List Int)) {i k : Nat} {y : List Int} {v : Int} (h : ls[i]? = some y) (hv : y[k]? = some v) (h0 : 0 ≤ v) (h1 : ZaN (pre ls i k) v < 0) :
  (ZbZ c (pre ls i k)).set v.toNat (i : Int) = ZbZ c (pre ls i (k + 1)) := by
 have hi : (ls.take i).length = i := by rw [List.length_take]; have := (List.getElem?_eq_some_iff.1 h).1; omega
 refine List.ext_getElem? fun u => ?_
 by_cases hu : u < c
 ·rw [ZiS hu, List.getElem?_set, ZiS hu, Zey];simp only [pre, h, Option.getD_some, Zqp, ZaD hv, hi, List.mem_append, List.mem_singleton] at h1 ⊢;by_cases e : v.toNat = u
  ·subst e;have ev : ((v.toNat : Nat) : Int) = v := by omega
   rw [if_pos rfl, if_pos hu, ev];split at h1
   ·rename_i hm; have := Zfd.2 hm; omega
   ·rename_i hm;rw [if_neg hm, if_pos (.inr rfl)]
  ·rw [if_neg e];have : ¬ (u : Int) = v := by omega
   simp [this]
 ·rw [List.getElem?_eq_none (by rw [List.length_set, Zey]; omega), List.getElem?_eq_none (by rw [Zey]; omega)]
theorem Zsv (ls : List (List Int)) (i : Nat) (v : Int) : ZaN (pre ls i 0) v = ZaN (ls.take i) v := by
 rw [pre, Zqp];by_cases h : v ∈ (ls.take i).flatten
 ·rw [if_pos h]
 ·rw [if_neg h, List.take_zero, if_neg List.not_mem_nil, Zmm h]
theorem ZxN (c : Nat) (ls : List (List Int)) (i : Nat) : ZbZ c (pre ls i 0) = ZbZ c (ls.take i) := by
 simp only [ZbZ, Zsv]
theorem Zvq {ls : List (List Int)} {i : Nat} {y : List Int} (h : ls[i]? = some y) : pre ls i y.length = ls.take (i + 1) := by
 rw [pre, h, Option.getD_some, List.take_length, ZaD h]
theorem ZzD {c : Nat} {ls : List (List Int)} {i : Nat} : Zcu c (pre ls i 0) = Zcu c (ls.take i) := by
 simp [Zcu, pre]
theorem Zgk {c : Nat} {ls : List (List Int)} : Zcu c ls = true ↔ (∀ v ∈ ls.flatten, 0 ≤ v ∧ v < c) ∧ ls.flatten.Nodup := by
 simp only [Zcu, Bool.and_eq_true, List.all_eq_true, decide_eq_true_eq]
theorem Ztb {c : Nat} {ls : List (List Int)} {i k : Nat} {y : List Int} {v : Int} (h : ls[i]? = some y) (hv : y[k]? = some v) (hg : Zcu c (pre ls i k) = true) (h0 : 0 ≤ v) (h2 : v < c) (h1 : ZaN (pre ls i k) v < 0) :
  Zcu c (pre ls i (k + 1)) = true := by
 rw [Zgk] at hg ⊢;rw [ZtD ls h hv];have hn : v ∉ (pre ls i k).flatten := fun hm => by have := Zfd.2 hm; omega
 refine ⟨fun u hu => ?_, List.nodup_append.2 ⟨hg.2, by simp, fun a ha b hb => ?_⟩⟩
 ·rcases List.mem_append.1 hu with hu | hu
  ·exact hg.1 u hu
  ·rw [List.mem_singleton.1 hu]; exact ⟨h0, h2⟩
 ·rw [List.mem_singleton.1 hb]; rintro rfl; exact hn ha
theorem Zqv {c : Nat} {ls : List (List Int)} {i k : Nat} {y : List Int} {v : Int} (h : ls[i]? = some y) (hv : y[k]? = some v) (hb : v < 0 ∨ (c : Int) ≤ v ∨ 0 ≤ ZaN (pre ls i k) v) : Zcu c ls = false := by
 rw [Bool.eq_false_iff];intro hg;rw [Zgk] at hg;have hd : y.drop k = v :: y.drop (k + 1) := by
  obtain ⟨hi, he⟩ := List.getElem?_eq_some_iff.1 hv;rw [← he]; exact List.drop_eq_getElem_cons hi
 have hf := Zzi ls (k := k) h;rw [hd] at hf;rw [hf] at hg;have hm := hg.1 v (by simp);rcases hb with hb | hb | hb
 ·omega
 ·omega
 ·exact (List.nodup_append.1 hg.2).2.2 v (Zfd.1 hb) v (by simp) rfl
theorem ZyR (c : Nat) : ZbZ c [] = List.replicate c (-1) := by
 rw [List.eq_replicate_iff];refine ⟨Zey _ _, fun b hb => ?_⟩;obtain ⟨u, _, rfl⟩ := List.mem_map.1 hb;rfl
def Zel (c k : Nat) : List Int := List.replicate k (-1) ++ List.replicate (c - k) 0
theorem ZqB {c k : Nat} (h : k ≤ c) : (Zel c k).length = c := by simp [Zel]; omega
theorem Zy1 {c k : Nat} (h : k < c) : (Zel c k).set k (-1) = Zel c (k + 1) := by
 have e : c - k = (c - (k + 1)) + 1 := by omega
 rw [Zel, e, List.replicate_succ, List.set_append, List.length_replicate, if_neg (by omega), Nat.sub_self, List.set_cons_zero, Zel, List.replicate_succ', List.append_assoc];rfl
theorem ZrS {c k : Nat} (h : k < c) : ∃ x, (Zel c k)[k]? = some x := Zad (by rw [ZqB (by omega)]; exact h)
theorem Zy7 (c : Nat) : Zel c c = ZbZ c [] := by rw [ZyR, Zel, Nat.sub_self]; simp
theorem ZyU (c : Nat) : (Zel c 0).map D.int = List.replicate c (D.int 0) := by simp [Zel]
theorem Zrp (a : Lv) (hw : wide a) : Zaa Tryz.prog 111 [lvD a] (.tup [Zac ((Zb9 a.2.1).getD []), .bool (Zb9 a.2.1).isSome]) := by
 obtain ⟨m, ls, ar, cs⟩ := a;have hww : ∀ y, y ∈ ls → y.length * 8 ≤ 140737488351232 := hw;refine kE Tryz.func111 ?_;intro hat B X w0;have h1 := Zca 0 1 hat rfl rfl;rw [List.length_map] at h1;dsimp only at h1;refine kw1 kc0 kc0 ?_;refine Zai (fun (i : Nat) => i ≤ ls.length ∧ i ≤ 257 ∧ tot (ls.take i) ≤ 512 + 17592186043904) (fun i => [(1, .ptr 1 0 0 0), (4, .int (tot (ls.take i))), (5, .int i)]) (fun i => [(1, .cells [.int m, .d (Zae ls), .d (Zak ar), .d (Zae cs)])]) (fun i => ls.length - i) 0 ?_ ?_ ?_
 ·exact ⟨Nat.zero_le _, by omega, by simp [tot]⟩
 ·exact kN (kc2 @List.take_zero.{0} @tot.eq_1) []
 ·rintro i ⟨hi1, hi2, hi3⟩;by_cases hgo : i < ls.length ∧ i < 257 ∧ tot (ls.take i) ≤ 512
  ·obtain ⟨g1, g2, g3⟩ := hgo;obtain ⟨y, hy⟩ := Zad g1;have hyw := hww y (List.mem_of_getElem? hy);have hts := ZpB hy;refine kw1 (kc1 hy) kc0 ?_;refine ⟨i + 1, ?_, kN (kc2 hts @Int.natCast_add) [], ?_⟩
   ·exact ⟨by omega, by omega, by omega⟩
   ·omega
  ·have hout : (256 < ls.length ∨ 512 < tot (ls.take i)) ∨ (i = ls.length ∧ ls.length ≤ 256 ∧ tot ls ≤ 512) := by
    by_cases c1 : i = ls.length
    ·rw [c1, List.take_length]; omega
    ·omega
   rcases hout with hno | ⟨rfl, g2, g3⟩
   ·have htl := Zpc ls i;have hrf : Zb9 ls = none := by rw [Zb9, if_pos (by omega)]
    rw [hrf];have hlt : i < ls.length ∨ i = ls.length := by omega
    rcases hlt with hlt | hlt
    all_goals
     by_cases h257 : i < 257
     all_goals
      refine kw kc0 kc0 ?_
      repeat' first | exact True.intro | refine Bn.mk ?_ ?_ | intro hc
      all_goals exact ⟨_, rfl, rfl, Zaj rfl, trivial⟩
   ·rw [List.take_length];have hrf : Zb9 ls = if Zcu (tot ls) ls then some (ZbZ (tot ls) ls) else none := by rw [Zb9, if_neg (by omega)]
    rw [hrf];generalize hc : tot ls = c at g3 ⊢;refine ZnA ⟨Nat.beq 43, ⟨⟩⟩ kc0 kc0 ?_;refine Zai (fun (v : Nat) => v ≤ c) (fun v => [(1, .ptr 1 0 0 0), (4, .int c), (6, .ref 43 1 0 c c), (7, .int v)]) (fun v => [(1, .cells [.int m, .d (Zae ls), .d (Zak ar), .d (Zae cs)]), (43, .row 1 ((Zel c v).map D.int))]) (fun v => c - v) 0 ?_ ?_ ?_
    ·exact Nat.zero_le _
    ·exact kN (kc1 @ZyU) []
    ·intro v hv;have hnl := ZqB hv;rcases Nat.lt_or_ge v c with hlt | hge
     ·obtain ⟨x, hx⟩ := ZrS hlt;have hst := Zy1 hlt;refine kw1 (kc2 hx hnl) kc0 ?_;refine ⟨v + 1, ?_, kN (kc2 @hst.symm @List.map_set.{0,0}) [], ?_⟩
      ·omega
      ·omega
     ·have : v = c := by omega
      subst this
      try dsimp only
      rw [Zy7];refine kw1 kc0 kc0 ?_;refine Zai (fun (i : Nat) => i ≤ ls.length ∧ Zcu v (ls.take i) = true) (fun i => [(1, .ptr 1 0 0 0), (4, .int v), (6, .ref 43 1 0 v v), (8, .int i)]) (fun i => [(1, .cells [.int m, .d (Zae ls), .d (Zak ar), .d (Zae cs)]), (43, .row 1 ((ZbZ v (ls.take i)).map D.int))]) (fun i => ls.length - i) 0 ?_ ?_ ?_
      ·exact ⟨Nat.zero_le _, by simp [Zcu]⟩
      ·exact kN (kc1 @List.take_zero.{0}) []
      ·rintro i ⟨hi, hgood⟩;rcases Nat.lt_or_ge i ls.length with hlt | hge
       ·obtain ⟨y, hy⟩ := Zad hlt;have hyw := hww y (List.mem_of_getElem? hy);refine kw1 (kc1 hy) kc0 ?_;refine Zai (fun (k : Nat) => k ≤ y.length ∧ Zcu v (pre ls i k) = true) (fun k => [(1, .ptr 1 0 0 0), (4, .int v), (6, .ref 43 1 0 v v), (8, .int i), (9, .int k)]) (fun k => [(1, .cells [.int m, .d (Zae ls), .d (Zak ar), .d (Zae cs)]), (43, .row 1 ((ZbZ v (pre ls i k)).map D.int))]) (fun k => y.length - k) 0 ?_ ?_ ?_
        ·exact ⟨Nat.zero_le _, by rw [ZzD]; exact hgood⟩
        ·exact kN (kc1 @ZxN) []
        ·rintro k ⟨hk, hgk⟩;rcases Nat.lt_or_ge k y.length with hlk | hgk2
         ·obtain ⟨x, hx⟩ := Zad hlk;have hrl := Zey v (pre ls i k);by_cases hin : 0 ≤ x ∧ x < v
          ·have hg := ZiS (v := x.toNat) (c := v) (by omega) (pre ls i k);rw [show ((x.toNat : Nat) : Int) = x by omega] at hg;by_cases hd : ZaN (pre ls i k) x < 0
           ·have hst := Zwx (c := v) ls hy hx hin.1 hd;refine kw1 (kc4 hy hx hrl hg) kc0 ?_;refine ⟨k + 1, ?_, kN (kc2 @hst.symm @List.map_set.{0,0}) [], ?_⟩
            ·exact ⟨by omega, Ztb hy hx hgk hin.1 hin.2 hd⟩
            ·omega
           ·have hbad := Zqv (c := v) hy hx (.inr (.inr (by omega)));rw [hbad];refine kw1 (kc4 hy hx hrl hg) kc0 ?_
            all_goals exact ⟨_, rfl, rfl, Zaj rfl, trivial⟩
          ·have hbad := Zqv (c := v) hy hx (by omega);rw [hbad];refine kw (kc3 hy hx hrl) kc0 ?_
           repeat' first | exact True.intro | refine Bn.mk ?_ ?_ | intro hc
           all_goals exact ⟨_, rfl, rfl, Zaj rfl, trivial⟩
         ·have : k = y.length := by omega
          subst this;have hpf := Zvq hy;refine kw1 (kc1 hy) kc0 ?_;refine ⟨i + 1, ?_, kN (kc1 hpf) [], ?_⟩
          ·exact ⟨by omega, by rw [← hpf]; exact hgk⟩
          ·omega
       ·have : i = ls.length := by omega
        subst this;rw [List.take_length] at hgood
        try dsimp only
        rw [List.take_length, hgood];refine kw1 kc0 kc0 ?_;exact ⟨_, rfl, Zdf (o := 43) rfl rfl (by simp [Zey]) (List.take_of_length_le (by simp [Zey])), Zaj rfl, trivial⟩
def ZfJ (a : Lv) (o : List Int) : Bool := decide (0 ≤ a.1 ∧ a.1 ≤ o.length ∧ a.1 ≤ 64 ∧ a.2.2.2.length ≤ 256) && !a.2.2.2.any Zdy
def Zb3 (a : Lv) : Gr × List Int × Bool := match Zb9 a.2.1 with
 | none => ((0, []), [], false)
 | some o => if ZfJ a o then (ZaV a, o.take a.1.toNat, true) else ((0, []), [], false)
def ZhQ (a : Lv) : Bool := (Zb3 a).2.2 && decide ((ZaH (Zb3 a).1 (Zb3 a).2.1).2 = 0) && Zes (ZaH (Zb3 a).1 (Zb3 a).2.1).1 (ZcA a)
theorem Zvu (a : Lv) (hw : wide a) : Zaa Tryz.prog 54 [lvD a] (.tup [gD (Zb3 a).1, Zac (Zb3 a).2.1, .bool (Zb3 a).2.2]) := by
 have hr := Zrp a hw;obtain ⟨m, ls, ar, cs⟩ := a;dsimp only at hr;have hsf : Zb3 (m, ls, ar, cs) = match Zb9 ls with
  | none => ((0, []), [], false)
  | some o => if ZfJ (m, ls, ar, cs) o then ((m, cs.map Zb6), o.take m.toNat, true) else ((0, []), [], false) := rfl
 rw [hsf];rcases hrf : Zb9 ls with _ | o
 ·rw [hrf] at hr;dsimp only [Option.getD_none, Option.isSome_none] at hr;refine kE Tryz.func54 ?_;intro hat B X w0;refine kw1 kc0 (kc1 hr) ?_;refine ⟨_, rfl, ⟨_, _, _, _, rfl, ?_⟩, rfl, Zaj rfl, trivial⟩;simp (disch := omega) only [go_sem, simprocAttr, toD];rfl
 ·rw [hrf] at hr;dsimp only [Option.getD_some, Option.isSome_some] at hr;dsimp only;have hol : o.length ≤ 512 := by
   rw [Zb9] at hrf;split at hrf
   ·cases hrf
   ·split at hrf
    ·cases hrf; rw [Zey]; omega
    ·cases hrf
  refine kE Tryz.func54 ?_;intro hat B X w0;have h3 := Zca 0 3 hat rfl rfl;rw [List.length_map] at h3;dsimp only at h3;refine kw kc0 (kc1 hr) ?_
  repeat' first | exact True.intro | refine Bn.mk ?_ ?_ | intro hc
  all_goals try
   rw [if_neg (by simp [ZfJ]; omega)];refine ⟨_, rfl, ⟨_, _, _, _, rfl, ?_⟩, rfl, Zaj rfl, trivial⟩;simp (disch := omega) only [go_sem, simprocAttr, toD];rfl
  obtain ⟨n, rfl⟩ : ∃ n : Nat, m = n := ⟨m.toNat, by omega⟩;have hn1 : n ≤ o.length := by omega
  have hn2 : n ≤ 64 := by omega
  have hc2 : cs.length ≤ 256 := by omega
  have hso : ZfJ ((n : Int), ls, ar, cs) o = !cs.any Zdy := by
   simp only [ZfJ]; rw [decide_eq_true (by omega), Bool.true_and]
  rw [hso];refine Zau _ (Zcy 7 1 901 2 rfl rfl rfl) ?_;refine Zai (fun (k : Nat) => k ≤ cs.length ∧ ∀ (j : Nat) y, j < k → cs[j]? = some y → Zdy y = false) (fun k => [(1, .ptr 1 0 0 0), (2, .ptr 2 0 0 0), (5, .d (Zac o)), (7, .ptr 7 0 0 0), (8, .int k)]) (fun k => [(1, .cells [.int n, .d (Zae ls), .d (Zak ar), .d (Zae cs)]), (2, .cells [.int 0, .nilS]), (7, .cells [.int n, .ref 901 2 0 k k]), (901, .row 2 (((cs.take k).map Zb6).map ZaU))]) (fun k => cs.length - k) 0 ?_ ?_ ?_
  ·exact ⟨Nat.zero_le _, fun j y h => by omega⟩
  ·exact kN (kc2 @List.take_zero.{0} @List.map_nil.{0,0}) []
  ·rintro k ⟨hk, hinv⟩;rcases Nat.lt_or_ge k cs.length with hlt | hge
   ·obtain ⟨c, hc0⟩ := Zad hlt;by_cases hsc : c.length < 2
    ·have : cs.any Zdy = true := Zc6 hc0 (by simpa [Zdy] using hsc);rw [this];refine kw1 (kc1 hc0) kc0 ?_;refine ⟨_, rfl, ⟨_, _, _, _, rfl, ?_⟩, rfl, Zaj rfl, trivial⟩;simp (disch := omega) only [go_sem, simprocAttr, toD];rfl
    ·have hcl : c.length ≤ 9223372036854775807 := by have := Zqr (m := c.map D.int) (k := k) 0 3 hat rfl rfl (by rw [List.getElem?_map, hc0]; rfl); rwa [List.length_map] at this
     have e1 := ZaS (r := c) (i := 0) (by omega);have e2 := ZeD (r := c) (v := (c.length : Int) - 1) (by omega) (by omega);have hts := ZaD hc0;have hlk : (((cs.take k).map Zb6).map ZaU).length = k := by rw [List.length_map, List.length_map, List.length_take]; omega
     have htk : List.take k (((cs.take k).map Zb6).map ZaU) = ((cs.take k).map Zb6).map ZaU := List.take_of_length_le (by rw [hlk]; exact Nat.le_refl _);refine kw1 (kc4 hc0 e1 e2 hlk) kc0 ?_;refine ⟨k + 1, ?_, kN (kc3 hts @List.map_append.{0,0} htk) [(901, 73)], ?_⟩
     ·exact ⟨by omega, ZbK hinv hc0 (by simpa [Zdy] using hsc)⟩
     ·omega
   ·have : k = cs.length := by omega
    subst this;have hsc : cs.any Zdy = false := ZdT fun j y hj => hinv j y hj
    try dsimp only
    rw [List.take_length, hsc, if_pos (by decide)];have hlA : ((cs.map Zb6).map ZaU).length = cs.length := by simp
    refine kw1 kc0 kc0 ?_;refine ⟨_, rfl, ⟨_, _, _, _, rfl, ?_⟩, ?_, Zaj rfl, trivial⟩
    ·simp (disch := omega) only [go_sem, simprocAttr, toD, hlA, Nat.le_refl, List.drop_zero];rw [List.take_of_length_le (by rw [hlA]; exact Nat.le_refl _)]
    ·exact Zc1 (by rw [List.map_take])
theorem ZnX {a : Lv} (h : (Zb3 a).2.2 = true) : a.2.1.length ≤ 256 ∧ tot a.2.1 ≤ 512 := by
 rw [Zb3] at h;split at h
 ·cases h
 ·rename_i o ho;rw [Zb9] at ho;split at ho
  ·cases ho
  ·omega
theorem ZuB (a : Lv) (hw : wide a) : Zaa Tryz.prog 15 [lvD a] (.bool (ZhQ a)) := by
 have hs := Zvu a hw;have hb := Zxh (Zb3 a).1 (Zb3 a).2.1;have hm := Zs7 (ZaH (Zb3 a).1 (Zb3 a).2.1).1 (ZcA a);rcases h1 : (Zb3 a).2.2 with _ | _
 ·rw [h1] at hs;rw [ZhQ, h1];refine kE Tryz.func15 ?_;intro hat B X w0;refine kw1 kc0 (kc1 hs) ?_;exact Zaj rfl
 ·rw [h1] at hs;rw [ZhQ, h1];obtain ⟨t1, t2⟩ := ZnX h1;have hp := Zze a (by omega) (fun y hy => by have := ZcM hy; omega);generalize Zb3 a = S at *;generalize ZaH S.1 S.2.1 = BF at *;obtain ⟨b, e⟩ := BF;dsimp only at hb hm ⊢;by_cases he : e = 0
  ·subst he;rcases hsv : Zes b (ZcA a) with _ | _ <;> rw [hsv] at hm
   all_goals
    refine kE Tryz.func15 ?_;intro hat B X w0;refine kw1 kc0 (kc4 hs hb hp hm) ?_;exact Zaj rfl
  ·refine kE Tryz.func15 ?_;intro hat B X w0;refine kw1 (kc1 he) (kc4 hs hb hp hm) ?_;refine Zaj ?_;simp [he]
end Go.Proofs.YtjjbhjnpeenbkaaGreatDoor
