/- The six laws on cycles: their rows and their cards. -/
import Derived.Test.YthbcmebhpabpnaaDoorCards
import Derived.Test.YthbcmebhpabpnaaDoorTie
import Derived.SevenTiedAt
import Derived.RowKit
import Derived.JoinedOf
import Derived.Test.YthbcmebhpabpnaaDoorCyR
set_option linter.unusedSimpArgs false
set_option linter.unusedVariables false
namespace Go.Proofs.YthbcmebhpabpnaaDoor
open Go Go.PS Go.ChangeShapes Go.WideShapes Go.ChangeAt Go.RowKit
theorem no_standIn {P : Program} {ps : Array TypeId} (h : (ps.toList.all fun t => !P.wantsStandIn t) = true) (j : Nat) (t : TypeId) (ht : ps[j]? = some t) : P.wantsStandIn t = false := by
 have := List.all_eq_true.1 h t (by rw [← Array.getElem?_toList] at ht; exact List.mem_of_getElem? ht)
 simpa using this
theorem Tryd.own : ownKnob Tryd.prog.godebug = none := by kernel_rfl
theorem Tryd.laidOut : laidOutB Tryd.prog = true := by kernel_rfl
abbrev listed : List (String × DataW Unit) := [("math/bits.deBruijn32tab", Rows.laid_math_bits_deBruijn32tab), ("math/bits.deBruijn64tab", Rows.laid_math_bits_deBruijn64tab)]
theorem tab64 : Tryd.prog.globalNamed "math/bits.deBruijn64tab" = some 1 := by kernel_rfl
theorem tabs_listed (w : World) (h : laidMetH Tryd.prog listed w) : TabsAt (tabs Tryd.prog) w noX := by
 have h1 : laidMet Tryd.prog listed w := h
 have h2 := h1.tail
 exact tabs_laid tab64 (Lib.tabIs_of_head tab64 (t := 83) (e := 5) (n := 64) (by kernel_rfl) (by kernel_rfl) (by kernel_rfl) (by kernel_rfl) (by kernel_rfl) (zs := db64) h2)
noncomputable def laidWorld (os : Os) : World := World.laidAll Tryd.prog os listed
theorem laidWorld_met (os : Os) (args : Array Value) : laidMetH Tryd.prog listed ((laidWorld os).forCall (fun _ _ => 0) ⟨#[], args, []⟩).memory :=
 laidMet_laidAll args (by kernel_rfl) (by kernel_rfl)
set_option maxRecDepth 100000 in
theorem breaks_lifted (os : Os) (started : os.Started) (H : Type) (enc : TypeId × Value → H) :
  ReturnsInHanded {} Tryd.checked os 3 .any (fun w args => (Rows.cycleBreaksSpec.pre enc Tryd.prog Tryd.f3 [] false w args ∧ laidMetH Tryd.prog listed w) ∧ sizedMet enc Tryd.prog Tryd.f3 (OpenSpec.ofChange Rows.cycleBreaksSpec) false w args) (Rows.cycleBreaksSpec.post enc Tryd.prog Tryd.f3 false true false false) :=
 law_laid (C := Tryd.checked) (tb := 4) Tryd.own started (by kernel_rfl) Tryd.func3
  (ChangeSpec.witness_at (enc := enc) (C := Tryd.checked) (os := os) (X := fun w _ => laidMetH Tryd.prog listed w) false (laidWorld os) #[.agg #[.int .i64 0, .slice none 0 0], .slice none 0 0] 8 (World.laidAll_os _ _ _) (by kernel_rfl) (by kernel_rfl) (by kernel_rfl) (by kernel_rfl) (by kernel_rfl) (laidWorld_met os _)) Tryd.laidOut (by kernel_rfl) (by kernel_rfl) (by kernel_rfl) rfl
  (fun ds h => by
   match ds, h with
   | [d0, d1], _ => rfl)
  (fun xs hl ha => by
   match xs, hl with
   | [x0, x1], _ =>
    obtain ⟨y0, rfl⟩ := arg_g (ha 0 24 x0 (by kernel_rfl) rfl)
    obtain ⟨y1, rfl⟩ := arg_ints (ha 1 25 x1 (by kernel_rfl) rfl)
    exact lawBreaks y0 y1) tabs_listed
theorem breaks_row : Rows.CycleBreaksSaid :=
 OpenClaim.holds_of_wide 3 Tryd.f3 rfl rfl rfl rfl rfl rfl rfl ⟨rfl, rfl, rfl, rfl, rfl⟩ rfl rfl rfl rfl rfl (by kernel_rfl) Tryd.func3 (by kernel_rfl)
  (of_decide_eq_true (by kernel_rfl)) (by unfold Func.isWrapper; first | (rw [if_pos (by decide +kernel)]; kernel_rfl) | (rw [if_neg (by decide +kernel)]; exact ⟨rfl, rfl⟩))
  (fun os started H enc _ => breaks_lifted os started H enc)
theorem breaks_holds : Rows.CycleBreaksCardSaid :=
 Claim7.holds_tied_plain_at .later [] [.data, .data] true (true, "d106be408ffb6103c04bb822f4fd39b2fb38d03a7ea62f47002902eeeee55f86") true
  breaks_row (fun _ h => by cases h) (by kernel_rfl) (fun _ h => by cases h) cycleBreaks_row_tie rfl ⟨rfl, rfl⟩ (by kernel_rfl) rfl
  (fun f fn hf hfn => by
   obtain rfl : f = 3 := Option.some.inj ((show Tryd.prog.funcNamed "layout/layoutlaw19.CycleBreaks" = some 3 by kernel_rfl).symm.trans hf) |>.symm
   obtain rfl : fn = Tryd.f3 := (Option.some.inj (Tryd.func3.symm.trans hfn)).symm
   exact ⟨by kernel_rfl, no_standIn (by kernel_rfl)⟩)
  (by kernel_rfl)
set_option maxRecDepth 100000 in
theorem greedy_lifted (os : Os) (started : os.Started) (H : Type) (enc : TypeId × Value → H) :
  ReturnsInHanded {} Tryd.checked os 4 .any (fun w args => (Rows.cycleGreedySpec.pre enc Tryd.prog Tryd.f4 [] false w args ∧ laidMetH Tryd.prog listed w) ∧ sizedMet enc Tryd.prog Tryd.f4 (OpenSpec.ofChange Rows.cycleGreedySpec) false w args) (Rows.cycleGreedySpec.post enc Tryd.prog Tryd.f4 false true false false) :=
 law_laid (C := Tryd.checked) (tb := 4) Tryd.own started (by kernel_rfl) Tryd.func4
  (ChangeSpec.witness_at (enc := enc) (C := Tryd.checked) (os := os) (X := fun w _ => laidMetH Tryd.prog listed w) false (laidWorld os) #[.agg #[.int .i64 0, .slice none 0 0]] 8 (World.laidAll_os _ _ _) (by kernel_rfl) (by kernel_rfl) (by kernel_rfl) (by kernel_rfl) (by kernel_rfl) (laidWorld_met os _)) Tryd.laidOut (by kernel_rfl) (by kernel_rfl) (by kernel_rfl) rfl
  (fun ds h => by
   match ds, h with
   | [d0], _ => rfl)
  (fun xs hl ha => by
   match xs, hl with
   | [x0], _ =>
    obtain ⟨y0, rfl⟩ := arg_g (ha 0 24 x0 (by kernel_rfl) rfl)
    exact lawGreedy y0) tabs_listed
theorem greedy_row : Rows.CycleGreedySaid :=
 OpenClaim.holds_of_wide 4 Tryd.f4 rfl rfl rfl rfl rfl rfl rfl ⟨rfl, rfl, rfl, rfl, rfl⟩ rfl rfl rfl rfl rfl (by kernel_rfl) Tryd.func4 (by kernel_rfl)
  (of_decide_eq_true (by kernel_rfl)) (by unfold Func.isWrapper; first | (rw [if_pos (by decide +kernel)]; kernel_rfl) | (rw [if_neg (by decide +kernel)]; exact ⟨rfl, rfl⟩))
  (fun os started H enc _ => greedy_lifted os started H enc)
theorem greedy_holds : Rows.CycleGreedyCardSaid :=
 Claim7.holds_tied_plain_at .later [] [.data, .data] true (true, "d106be408ffb6103c04bb822f4fd39b2fb38d03a7ea62f47002902eeeee55f86") true
  greedy_row (fun _ h => by cases h) (by kernel_rfl) (fun _ h => by cases h) cycleGreedy_row_tie rfl ⟨rfl, rfl⟩ (by kernel_rfl) rfl
  (fun f fn hf hfn => by
   obtain rfl : f = 4 := Option.some.inj ((show Tryd.prog.funcNamed "layout/layoutlaw19.CycleGreedy" = some 4 by kernel_rfl).symm.trans hf) |>.symm
   obtain rfl : fn = Tryd.f4 := (Option.some.inj (Tryd.func4.symm.trans hfn)).symm
   exact ⟨by kernel_rfl, no_standIn (by kernel_rfl)⟩)
  (by kernel_rfl)
set_option maxRecDepth 100000 in
theorem least_lifted (os : Os) (started : os.Started) (H : Type) (enc : TypeId × Value → H) :
  ReturnsInHanded {} Tryd.checked os 5 .any (fun w args => (Rows.cycleLeastSpec.pre enc Tryd.prog Tryd.f5 [] false w args ∧ laidMetH Tryd.prog listed w) ∧ sizedMet enc Tryd.prog Tryd.f5 (OpenSpec.ofChange Rows.cycleLeastSpec) false w args) (Rows.cycleLeastSpec.post enc Tryd.prog Tryd.f5 false true false false) :=
 law_laid (C := Tryd.checked) (tb := 4) Tryd.own started (by kernel_rfl) Tryd.func5
  (ChangeSpec.witness_at (enc := enc) (C := Tryd.checked) (os := os) (X := fun w _ => laidMetH Tryd.prog listed w) false (laidWorld os) #[.agg #[.int .i64 0, .slice none 0 0]] 8 (World.laidAll_os _ _ _) (by kernel_rfl) (by kernel_rfl) (by kernel_rfl) (by kernel_rfl) (by kernel_rfl) (laidWorld_met os _)) Tryd.laidOut (by kernel_rfl) (by kernel_rfl) (by kernel_rfl) rfl
  (fun ds h => by
   match ds, h with
   | [d0], _ => rfl)
  (fun xs hl ha => by
   match xs, hl with
   | [x0], _ =>
    obtain ⟨y0, rfl⟩ := arg_g (ha 0 24 x0 (by kernel_rfl) rfl)
    exact lawLeast y0) tabs_listed
theorem least_row : Rows.CycleLeastSaid :=
 OpenClaim.holds_of_wide 5 Tryd.f5 rfl rfl rfl rfl rfl rfl rfl ⟨rfl, rfl, rfl, rfl, rfl⟩ rfl rfl rfl rfl rfl (by kernel_rfl) Tryd.func5 (by kernel_rfl)
  (of_decide_eq_true (by kernel_rfl)) (by unfold Func.isWrapper; first | (rw [if_pos (by decide +kernel)]; kernel_rfl) | (rw [if_neg (by decide +kernel)]; exact ⟨rfl, rfl⟩))
  (fun os started H enc _ => least_lifted os started H enc)
theorem least_holds : Rows.CycleLeastCardSaid :=
 Claim7.holds_tied_plain_at .later [] [.data, .data] true (true, "d106be408ffb6103c04bb822f4fd39b2fb38d03a7ea62f47002902eeeee55f86") true
  least_row (fun _ h => by cases h) (by kernel_rfl) (fun _ h => by cases h) cycleLeast_row_tie rfl ⟨rfl, rfl⟩ (by kernel_rfl) rfl
  (fun f fn hf hfn => by
   obtain rfl : f = 5 := Option.some.inj ((show Tryd.prog.funcNamed "layout/layoutlaw19.CycleLeast" = some 5 by kernel_rfl).symm.trans hf) |>.symm
   obtain rfl : fn = Tryd.f5 := (Option.some.inj (Tryd.func5.symm.trans hfn)).symm
   exact ⟨by kernel_rfl, no_standIn (by kernel_rfl)⟩)
  (by kernel_rfl)
set_option maxRecDepth 100000 in
theorem half_lifted (os : Os) (started : os.Started) (H : Type) (enc : TypeId × Value → H) :
  ReturnsInHanded {} Tryd.checked os 6 .any (fun w args => (Rows.cycleHalfSpec.pre enc Tryd.prog Tryd.f6 [] false w args ∧ laidMetH Tryd.prog listed w) ∧ sizedMet enc Tryd.prog Tryd.f6 (OpenSpec.ofChange Rows.cycleHalfSpec) false w args) (Rows.cycleHalfSpec.post enc Tryd.prog Tryd.f6 false true false false) :=
 law_laid (C := Tryd.checked) (tb := 4) Tryd.own started (by kernel_rfl) Tryd.func6
  (ChangeSpec.witness_at (enc := enc) (C := Tryd.checked) (os := os) (X := fun w _ => laidMetH Tryd.prog listed w) false (laidWorld os) #[.agg #[.int .i64 0, .slice none 0 0]] 8 (World.laidAll_os _ _ _) (by kernel_rfl) (by kernel_rfl) (by kernel_rfl) (by kernel_rfl) (by kernel_rfl) (laidWorld_met os _)) Tryd.laidOut (by kernel_rfl) (by kernel_rfl) (by kernel_rfl) rfl
  (fun ds h => by
   match ds, h with
   | [d0], _ => rfl)
  (fun xs hl ha => by
   match xs, hl with
   | [x0], _ =>
    obtain ⟨y0, rfl⟩ := arg_g (ha 0 24 x0 (by kernel_rfl) rfl)
    exact lawHalf y0) tabs_listed
theorem half_row : Rows.CycleHalfSaid :=
 OpenClaim.holds_of_wide 6 Tryd.f6 rfl rfl rfl rfl rfl rfl rfl ⟨rfl, rfl, rfl, rfl, rfl⟩ rfl rfl rfl rfl rfl (by kernel_rfl) Tryd.func6 (by kernel_rfl)
  (of_decide_eq_true (by kernel_rfl)) (by unfold Func.isWrapper; first | (rw [if_pos (by decide +kernel)]; kernel_rfl) | (rw [if_neg (by decide +kernel)]; exact ⟨rfl, rfl⟩))
  (fun os started H enc _ => half_lifted os started H enc)
theorem half_holds : Rows.CycleHalfCardSaid :=
 Claim7.holds_tied_plain_at .later [] [.data, .data] true (true, "d106be408ffb6103c04bb822f4fd39b2fb38d03a7ea62f47002902eeeee55f86") true
  half_row (fun _ h => by cases h) (by kernel_rfl) (fun _ h => by cases h) cycleHalf_row_tie rfl ⟨rfl, rfl⟩ (by kernel_rfl) rfl
  (fun f fn hf hfn => by
   obtain rfl : f = 6 := Option.some.inj ((show Tryd.prog.funcNamed "layout/layoutlaw19.CycleHalf" = some 6 by kernel_rfl).symm.trans hf) |>.symm
   obtain rfl : fn = Tryd.f6 := (Option.some.inj (Tryd.func6.symm.trans hfn)).symm
   exact ⟨by kernel_rfl, no_standIn (by kernel_rfl)⟩)
  (by kernel_rfl)
set_option maxRecDepth 100000 in
theorem smallest_lifted (os : Os) (started : os.Started) (H : Type) (enc : TypeId × Value → H) :
  ReturnsInHanded {} Tryd.checked os 7 .any (fun w args => (Rows.cycleSmallestSpec.pre enc Tryd.prog Tryd.f7 [] false w args ∧ laidMetH Tryd.prog listed w) ∧ sizedMet enc Tryd.prog Tryd.f7 (OpenSpec.ofChange Rows.cycleSmallestSpec) false w args) (Rows.cycleSmallestSpec.post enc Tryd.prog Tryd.f7 false true false false) :=
 law_laid (C := Tryd.checked) (tb := 4) Tryd.own started (by kernel_rfl) Tryd.func7
  (ChangeSpec.witness_at (enc := enc) (C := Tryd.checked) (os := os) (X := fun w _ => laidMetH Tryd.prog listed w) false (laidWorld os) #[.agg #[.int .i64 0, .slice none 0 0], .slice none 0 0] 8 (World.laidAll_os _ _ _) (by kernel_rfl) (by kernel_rfl) (by kernel_rfl) (by kernel_rfl) (by kernel_rfl) (laidWorld_met os _)) Tryd.laidOut (by kernel_rfl) (by kernel_rfl) (by kernel_rfl) rfl
  (fun ds h => by
   match ds, h with
   | [d0, d1], _ => rfl)
  (fun xs hl ha => by
   match xs, hl with
   | [x0, x1], _ =>
    obtain ⟨y0, rfl⟩ := arg_g (ha 0 24 x0 (by kernel_rfl) rfl)
    obtain ⟨y1, rfl⟩ := arg_ints (ha 1 25 x1 (by kernel_rfl) rfl)
    exact lawSmallest y0 y1) tabs_listed
theorem smallest_row : Rows.CycleSmallestSaid :=
 OpenClaim.holds_of_wide 7 Tryd.f7 rfl rfl rfl rfl rfl rfl rfl ⟨rfl, rfl, rfl, rfl, rfl⟩ rfl rfl rfl rfl rfl (by kernel_rfl) Tryd.func7 (by kernel_rfl)
  (of_decide_eq_true (by kernel_rfl)) (by unfold Func.isWrapper; first | (rw [if_pos (by decide +kernel)]; kernel_rfl) | (rw [if_neg (by decide +kernel)]; exact ⟨rfl, rfl⟩))
  (fun os started H enc _ => smallest_lifted os started H enc)
theorem smallest_holds : Rows.CycleSmallestCardSaid :=
 Claim7.holds_tied_plain_at .later [] [.data, .data] true (true, "d106be408ffb6103c04bb822f4fd39b2fb38d03a7ea62f47002902eeeee55f86") true
  smallest_row (fun _ h => by cases h) (by kernel_rfl) (fun _ h => by cases h) cycleSmallest_row_tie rfl ⟨rfl, rfl⟩ (by kernel_rfl) rfl
  (fun f fn hf hfn => by
   obtain rfl : f = 7 := Option.some.inj ((show Tryd.prog.funcNamed "layout/layoutlaw19.CycleSmallest" = some 7 by kernel_rfl).symm.trans hf) |>.symm
   obtain rfl : fn = Tryd.f7 := (Option.some.inj (Tryd.func7.symm.trans hfn)).symm
   exact ⟨by kernel_rfl, no_standIn (by kernel_rfl)⟩)
  (by kernel_rfl)
set_option maxRecDepth 100000 in
theorem orders_lifted (os : Os) (started : os.Started) (H : Type) (enc : TypeId × Value → H) :
  ReturnsInHanded {} Tryd.checked os 8 .any (fun w args => (Rows.cycleOrdersSpec.pre enc Tryd.prog Tryd.f8 [] false w args ∧ laidMetH Tryd.prog listed w) ∧ sizedMet enc Tryd.prog Tryd.f8 (OpenSpec.ofChange Rows.cycleOrdersSpec) false w args) (Rows.cycleOrdersSpec.post enc Tryd.prog Tryd.f8 false true false false) :=
 law_laid (C := Tryd.checked) (tb := 4) Tryd.own started (by kernel_rfl) Tryd.func8
  (ChangeSpec.witness_at (enc := enc) (C := Tryd.checked) (os := os) (X := fun w _ => laidMetH Tryd.prog listed w) false (laidWorld os) #[.agg #[.int .i64 0, .slice none 0 0], .slice none 0 0] 8 (World.laidAll_os _ _ _) (by kernel_rfl) (by kernel_rfl) (by kernel_rfl) (by kernel_rfl) (by kernel_rfl) (laidWorld_met os _)) Tryd.laidOut (by kernel_rfl) (by kernel_rfl) (by kernel_rfl) rfl
  (fun ds h => by
   match ds, h with
   | [d0, d1], _ => rfl)
  (fun xs hl ha => by
   match xs, hl with
   | [x0, x1], _ =>
    obtain ⟨y0, rfl⟩ := arg_g (ha 0 24 x0 (by kernel_rfl) rfl)
    obtain ⟨y1, rfl⟩ := arg_ints (ha 1 25 x1 (by kernel_rfl) rfl)
    exact lawOrders y0 y1) tabs_listed
theorem orders_row : Rows.CycleOrdersSaid :=
 OpenClaim.holds_of_wide 8 Tryd.f8 rfl rfl rfl rfl rfl rfl rfl ⟨rfl, rfl, rfl, rfl, rfl⟩ rfl rfl rfl rfl rfl (by kernel_rfl) Tryd.func8 (by kernel_rfl)
  (of_decide_eq_true (by kernel_rfl)) (by unfold Func.isWrapper; first | (rw [if_pos (by decide +kernel)]; kernel_rfl) | (rw [if_neg (by decide +kernel)]; exact ⟨rfl, rfl⟩))
  (fun os started H enc _ => orders_lifted os started H enc)
theorem orders_holds : Rows.CycleOrdersCardSaid :=
 Claim7.holds_tied_plain_at .later [] [.data, .data] true (true, "d106be408ffb6103c04bb822f4fd39b2fb38d03a7ea62f47002902eeeee55f86") true
  orders_row (fun _ h => by cases h) (by kernel_rfl) (fun _ h => by cases h) cycleOrders_row_tie rfl ⟨rfl, rfl⟩ (by kernel_rfl) rfl
  (fun f fn hf hfn => by
   obtain rfl : f = 8 := Option.some.inj ((show Tryd.prog.funcNamed "layout/layoutlaw19.CycleOrders" = some 8 by kernel_rfl).symm.trans hf) |>.symm
   obtain rfl : fn = Tryd.f8 := (Option.some.inj (Tryd.func8.symm.trans hfn)).symm
   exact ⟨by kernel_rfl, no_standIn (by kernel_rfl)⟩)
  (by kernel_rfl)
end Go.Proofs.YthbcmebhpabpnaaDoor
