/- Facts on the types of this seat's program, as the walk asks for them. -/
import Derived.Test.YthbcmebhpabpnaaDoorPSFam
import Derived.Test.YthbcmebhpabpnaaDoorProg
import Derived.KernelRfl
import Derived.Test.YthbcmebhpabpnaaDoorPSCy3
set_option linter.unusedSimpArgs false
set_option linter.unusedVariables false
namespace Go.Proofs.YthbcmebhpabpnaaDoor
open Go Go.PS Go.Proofs
theorem hmix : Tryd.prog.follows .mixedOrders = true := by kernel_rfl
theorem wR {B X : Nat → Prop} {w0 : W0} {n : Nat} {Q : Exit → St → Prop} {S : St} {id : Nat} {ops : Array Oper} {draw : Bool} (h : wpRun Tryd.prog (fun _ => false) ops.toList ops.toList S [] fun S' fs => okRegion n ops draw fs.reverse = true ∧ Q .normal S') : PW Tryd.prog B X w0 n (.region id ops draw) Q S := pw_region _ hmix h
@[go_sem] theorem un3 : Tryd.prog.underlying 3 = some (.int .i64) := by kernel_rfl
@[go_sem] theorem un5 : Tryd.prog.underlying 5 = some (.int .u8) := by kernel_rfl
@[go_sem] theorem un69 : Tryd.prog.underlying 69 = some (.int .u64) := by kernel_rfl
@[go_sem] theorem un79 : Tryd.prog.underlying 79 = some (.int .u32) := by kernel_rfl
@[go_sem] theorem ty3 : tyi Tryd.prog 3 = ⟨1, false, [.int .i64 0], 0, 0, 5, [], 8, true, true, false, [], false⟩ := by kernel_rfl
@[go_sem] theorem sz3 : Tryd.prog.cellsOf 3 = 1 := by kernel_rfl
@[go_sem] theorem ty4 : tyi Tryd.prog 4 = ⟨1, false, [.bool false], 0, 0, 6, [], 1, true, true, false, [], false⟩ := by kernel_rfl
@[go_sem] theorem sz4 : Tryd.prog.cellsOf 4 = 1 := by kernel_rfl
@[go_sem] theorem ty5 : tyi Tryd.prog 5 = ⟨1, false, [.int .u8 0], 0, 0, 5, [], 1, true, true, false, [], false⟩ := by kernel_rfl
@[go_sem] theorem sz5 : Tryd.prog.cellsOf 5 = 1 := by kernel_rfl
@[go_sem] theorem ty22 : tyi Tryd.prog 22 = ⟨1, false, [.slice none 0 0], 38, 0, 1, [], 24, true, true, false, [], false⟩ := by kernel_rfl
@[go_sem] theorem sz22 : Tryd.prog.cellsOf 22 = 1 := by kernel_rfl
@[go_sem] theorem ty24 : tyi Tryd.prog 24 = ⟨2, true, [.int .i64 0, .slice none 0 0], 0, 0, 3, [(0, 3), (1, 22)], 32, true, true, false, [(0, 1), (1, 1)], true⟩ := by kernel_rfl
@[go_sem] theorem sz24 : Tryd.prog.cellsOf 24 = 2 := by kernel_rfl
@[go_sem] theorem ty25 : tyi Tryd.prog 25 = ⟨1, false, [.slice none 0 0], 3, 0, 1, [], 24, true, true, false, [], false⟩ := by kernel_rfl
@[go_sem] theorem sz25 : Tryd.prog.cellsOf 25 = 1 := by kernel_rfl
@[go_sem] theorem ty31 : tyi Tryd.prog 31 = ⟨1, false, [.int .i64 0], 0, 0, 5, [], 8, true, true, false, [], false⟩ := by kernel_rfl
@[go_sem] theorem sz31 : Tryd.prog.cellsOf 31 = 1 := by kernel_rfl
@[go_sem] theorem ty38 : tyi Tryd.prog 38 = ⟨2, true, [.int .i64 0, .int .i64 0], 0, 0, 3, [(0, 3), (1, 3)], 16, true, true, true, [(0, 1), (1, 1)], true⟩ := by kernel_rfl
@[go_sem] theorem sz38 : Tryd.prog.cellsOf 38 = 2 := by kernel_rfl
@[go_sem] theorem ty47 : tyi Tryd.prog 47 = ⟨8, true, [.int .i64 0, .int .i64 0, .int .i64 0, .int .i64 0, .int .i64 0, .int .i64 0, .int .i64 0, .int .i64 0], 3, 8, 2, [], 64, true, true, false, [], false⟩ := by kernel_rfl
@[go_sem] theorem sz47 : Tryd.prog.cellsOf 47 = 8 := by kernel_rfl
@[go_sem] theorem ty48 : tyi Tryd.prog 48 = ⟨64, true, [.int .i64 0, .int .i64 0, .int .i64 0, .int .i64 0, .int .i64 0, .int .i64 0, .int .i64 0, .int .i64 0, .int .i64 0, .int .i64 0, .int .i64 0, .int .i64 0, .int .i64 0, .int .i64 0, .int .i64 0, .int .i64 0, .int .i64 0, .int .i64 0, .int .i64 0, .int .i64 0, .int .i64 0, .int .i64 0, .int .i64 0, .int .i64 0, .int .i64 0, .int .i64 0, .int .i64 0, .int .i64 0, .int .i64 0, .int .i64 0, .int .i64 0, .int .i64 0, .int .i64 0, .int .i64 0, .int .i64 0, .int .i64 0, .int .i64 0, .int .i64 0, .int .i64 0, .int .i64 0, .int .i64 0, .int .i64 0, .int .i64 0, .int .i64 0, .int .i64 0, .int .i64 0, .int .i64 0, .int .i64 0, .int .i64 0, .int .i64 0, .int .i64 0, .int .i64 0, .int .i64 0, .int .i64 0, .int .i64 0, .int .i64 0, .int .i64 0, .int .i64 0, .int .i64 0, .int .i64 0, .int .i64 0, .int .i64 0, .int .i64 0, .int .i64 0], 47, 8, 2, [], 512, true, true, false, [], false⟩ := by kernel_rfl
@[go_sem] theorem sz48 : Tryd.prog.cellsOf 48 = 64 := by kernel_rfl
@[go_sem] theorem ty50 : tyi Tryd.prog 50 = ⟨66, true, [.int .i64 0, .int .i64 0, .int .i64 0, .int .i64 0, .int .i64 0, .int .i64 0, .int .i64 0, .int .i64 0, .int .i64 0, .int .i64 0, .int .i64 0, .int .i64 0, .int .i64 0, .int .i64 0, .int .i64 0, .int .i64 0, .int .i64 0, .int .i64 0, .int .i64 0, .int .i64 0, .int .i64 0, .int .i64 0, .int .i64 0, .int .i64 0, .int .i64 0, .int .i64 0, .int .i64 0, .int .i64 0, .int .i64 0, .int .i64 0, .int .i64 0, .int .i64 0, .int .i64 0, .int .i64 0, .int .i64 0, .int .i64 0, .int .i64 0, .int .i64 0, .int .i64 0, .int .i64 0, .int .i64 0, .int .i64 0, .int .i64 0, .int .i64 0, .int .i64 0, .int .i64 0, .int .i64 0, .int .i64 0, .int .i64 0, .int .i64 0, .int .i64 0, .int .i64 0, .int .i64 0, .int .i64 0, .int .i64 0, .int .i64 0, .int .i64 0, .int .i64 0, .int .i64 0, .int .i64 0, .int .i64 0, .int .i64 0, .int .i64 0, .int .i64 0, .int .i64 0, .slice none 0 0], 0, 0, 3, [(0, 3), (1, 48), (65, 25)], 544, true, true, false, [(0, 1), (1, 64), (65, 1)], true⟩ := by kernel_rfl
@[go_sem] theorem sz50 : Tryd.prog.cellsOf 50 = 66 := by kernel_rfl
@[go_sem] theorem ty52 : tyi Tryd.prog 52 = ⟨1, false, [.slice none 0 0], 4, 0, 1, [], 24, true, true, false, [], false⟩ := by kernel_rfl
@[go_sem] theorem sz52 : Tryd.prog.cellsOf 52 = 1 := by kernel_rfl
@[go_sem] theorem ty55 : tyi Tryd.prog 55 = ⟨1, false, [.pointer none], 58, 0, 4, [], 8, true, true, false, [], false⟩ := by kernel_rfl
@[go_sem] theorem sz55 : Tryd.prog.cellsOf 55 = 1 := by kernel_rfl
@[go_sem] theorem ty56 : tyi Tryd.prog 56 = ⟨1, false, [.slice none 0 0], 3, 0, 1, [], 24, true, true, false, [], false⟩ := by kernel_rfl
@[go_sem] theorem sz56 : Tryd.prog.cellsOf 56 = 1 := by kernel_rfl
@[go_sem] theorem ty58 : tyi Tryd.prog 58 = ⟨1, true, [.slice none 0 0], 0, 0, 3, [(0, 56)], 24, true, true, false, [(0, 1)], true⟩ := by kernel_rfl
@[go_sem] theorem sz58 : Tryd.prog.cellsOf 58 = 1 := by kernel_rfl
@[go_sem] theorem ty60 : tyi Tryd.prog 60 = ⟨1, false, [.slice none 0 0], 25, 0, 1, [], 24, true, true, false, [], false⟩ := by kernel_rfl
@[go_sem] theorem sz60 : Tryd.prog.cellsOf 60 = 1 := by kernel_rfl
@[go_sem] theorem ty79 : tyi Tryd.prog 79 = ⟨1, false, [.int .u32 0], 0, 0, 5, [], 4, true, true, false, [], false⟩ := by kernel_rfl
@[go_sem] theorem sz79 : Tryd.prog.cellsOf 79 = 1 := by kernel_rfl
@[go_sem] theorem ty81 : tyi Tryd.prog 81 = ⟨1, false, [.int .u64 0], 0, 0, 5, [], 8, true, true, false, [], false⟩ := by kernel_rfl
@[go_sem] theorem sz81 : Tryd.prog.cellsOf 81 = 1 := by kernel_rfl
@[go_sem] theorem ty82 : tyi Tryd.prog 82 = ⟨32, true, [.int .u8 0, .int .u8 0, .int .u8 0, .int .u8 0, .int .u8 0, .int .u8 0, .int .u8 0, .int .u8 0, .int .u8 0, .int .u8 0, .int .u8 0, .int .u8 0, .int .u8 0, .int .u8 0, .int .u8 0, .int .u8 0, .int .u8 0, .int .u8 0, .int .u8 0, .int .u8 0, .int .u8 0, .int .u8 0, .int .u8 0, .int .u8 0, .int .u8 0, .int .u8 0, .int .u8 0, .int .u8 0, .int .u8 0, .int .u8 0, .int .u8 0, .int .u8 0], 5, 32, 2, [], 32, true, true, false, [], false⟩ := by kernel_rfl
@[go_sem] theorem sz82 : Tryd.prog.cellsOf 82 = 32 := by kernel_rfl
@[go_sem] theorem ty83 : tyi Tryd.prog 83 = ⟨64, true, [.int .u8 0, .int .u8 0, .int .u8 0, .int .u8 0, .int .u8 0, .int .u8 0, .int .u8 0, .int .u8 0, .int .u8 0, .int .u8 0, .int .u8 0, .int .u8 0, .int .u8 0, .int .u8 0, .int .u8 0, .int .u8 0, .int .u8 0, .int .u8 0, .int .u8 0, .int .u8 0, .int .u8 0, .int .u8 0, .int .u8 0, .int .u8 0, .int .u8 0, .int .u8 0, .int .u8 0, .int .u8 0, .int .u8 0, .int .u8 0, .int .u8 0, .int .u8 0, .int .u8 0, .int .u8 0, .int .u8 0, .int .u8 0, .int .u8 0, .int .u8 0, .int .u8 0, .int .u8 0, .int .u8 0, .int .u8 0, .int .u8 0, .int .u8 0, .int .u8 0, .int .u8 0, .int .u8 0, .int .u8 0, .int .u8 0, .int .u8 0, .int .u8 0, .int .u8 0, .int .u8 0, .int .u8 0, .int .u8 0, .int .u8 0, .int .u8 0, .int .u8 0, .int .u8 0, .int .u8 0, .int .u8 0, .int .u8 0, .int .u8 0, .int .u8 0], 5, 64, 2, [], 64, true, true, false, [], false⟩ := by kernel_rfl
@[go_sem] theorem sz83 : Tryd.prog.cellsOf 83 = 64 := by kernel_rfl

end Go.Proofs.YthbcmebhpabpnaaDoor
namespace Go.Proofs.YthbcmebhpabpnaaDoor
open Go Go.PS Go.Proofs
set_option maxRecDepth 100000
attribute [local irreducible] wpRun wpG CallsTo

abbrev Arc := Int × Int
abbrev arcD (a : Arc) : D := .ag [.int a.1, .int a.2]
theorem arcEq (p q : Arc) : (decide (p.1 = q.1) && decide (p.2 = q.2)) = decide (p = q) := by
 rw [Bool.eq_iff_iff]; simp [Prod.ext_iff]
abbrev arcsD (l : List Arc) : D := .sl (l.map arcD)
abbrev intsD (l : List Int) : D := .sl (l.map D.int)
abbrev Gr := Int × List Arc
abbrev gD (g : Gr) : D := .ag [.int g.1, arcsD g.2]
def arcIn (n : Int) (a : Arc) : Bool := decide (0 ≤ a.1 ∧ a.1 < n ∧ 0 ≤ a.2 ∧ a.2 < n)
def gOk (g : Gr) : Bool := decide (0 ≤ g.1 ∧ g.1 ≤ 64 ∧ g.2.length ≤ 256) && !g.2.any (fun a => !arcIn g.1 a)
theorem gOk_in {g : Gr} (h : gOk g = true) : 0 ≤ g.1 ∧ g.1 ≤ 64 ∧ g.2.length ≤ 256 ∧ ∀ (k : Nat) a, g.2[k]? = some a → 0 ≤ a.1 ∧ a.1 < g.1 ∧ 0 ≤ a.2 ∧ a.2 < g.1 := by
 simp only [gOk, Bool.and_eq_true, decide_eq_true_eq, Bool.not_eq_true', List.any_eq_false] at h
 obtain ⟨⟨h1, h2, h3⟩, h4⟩ := h
 refine ⟨h1, h2, h3, fun k a hk => ?_⟩
 have := h4 a (List.mem_of_getElem? hk)
 simpa [arcIn] using this

set_option maxHeartbeats 1000000 in
theorem Valid_spec (g : Gr) : CallsTo Tryd.prog 23 [gD g] (.bool (gOk g)) := by
 obtain ⟨n, l⟩ := g
 refine callsTo_of Tryd.func23 rfl (by decide +kernel) (Nat.le_of_ble_eq_true rfl) ?_
 intro hat B X w0
 have hl := at_len2 0 1 hat rfl rfl
 rw [List.length_map] at hl
 repeat' first | refine pw_step rfl ?_ | refine pw_ret ?_ | refine wR ?_ | (refine wpG_split rfl rfl (fun hc => ?_) (fun hc => ?_) <;> try simp only [hcL] at hc) | (refine pw_cond _ rfl rfl (fun hc => ?_) (fun hc => ?_) <;> (try simp only [hcL] at hc) <;> try omega) | simp (disch := omega) only [go_sem, simprocAttr] | apply And.intro | omega | decide +kernel
 all_goals try (refine bool_some ?_; simp [gOk]; omega)
 refine pw_loopI (κ := Nat) (fun (k : Nat) => k ≤ l.length ∧ ∀ (j : Nat) y, j < k → l[j]? = some y → (!arcIn n y) = false) (fun (k : Nat) => [(1, .ptr 1 0 0 0), (20, .d (arcsD l)), (21, .int l.length), (22, .int k)]) (fun (k : Nat) => [(1, .cells [.int n, .d (arcsD l)])]) (fun (k : Nat) => l.length - k) 0 ?_ ?_ ?_
 ·exact ⟨Nat.zero_le _, fun j y h => by omega⟩
 ·exact eL [] _ _ (by refine ⟨?_, ?_⟩ <;> (repeat' first | exact fmn | refine fmc ⟨(by first | rfl | (simp (disch := omega) only [go_sem, simprocAttr, inL]; first | done | omega | (congr 1; done))), ?_⟩); done)
 ·rintro k ⟨hk, hinv⟩
  rcases Nat.lt_or_ge k l.length with hlt | hge
  ·obtain ⟨p, hp⟩ := get_some hlt
   repeat' first | refine pw_step rfl ?_ | refine pw_ret ?_ | refine wR ?_ | (refine wpG_split rfl rfl (fun hc => ?_) (fun hc => ?_) <;> try simp only [hcL] at hc) | (refine pw_cond _ rfl rfl (fun hc => ?_) (fun hc => ?_) <;> (try simp only [hcL] at hc) <;> try omega) | simp (disch := omega) only [go_sem, simprocAttr, hp] | apply And.intro | omega | decide +kernel
   all_goals try
    refine bool_some ?_
    rw [gOk, any_at hp (by simp [arcIn]; omega)]; simp
   ·refine ⟨k + 1, ?_, eL [] _ _ (by refine ⟨?_, ?_⟩ <;> (repeat' first | exact fmn | refine fmc ⟨(by first | rfl | (simp (disch := omega) only [go_sem, simprocAttr, inL]; first | done | omega | (congr 1; done))), ?_⟩); done), ?_⟩
    ·exact ⟨by omega, upto_succ hinv hp (by simp [arcIn]; omega)⟩
    ·omega
  ·repeat' first | refine pw_step rfl ?_ | refine pw_ret ?_ | refine wR ?_ | (refine wpG_split rfl rfl (fun hc => ?_) (fun hc => ?_) <;> try simp only [hcL] at hc) | (refine pw_cond _ rfl rfl (fun hc => ?_) (fun hc => ?_) <;> (try simp only [hcL] at hc) <;> try omega) | simp (disch := omega) only [go_sem, simprocAttr] | apply And.intro | omega | decide +kernel
   refine bool_some ?_
   rw [gOk, any_no (fun j y hj => hinv j y (by omega))]
   simp; omega
end Go.Proofs.YthbcmebhpabpnaaDoor
namespace Go.Proofs.YthbcmebhpabpnaaDoor
open Go Go.PS Go.Proofs
set_option maxRecDepth 100000
attribute [local irreducible] wpRun wpG CallsTo

def hasF (l : List Int) (n : Int) : Bool := l.any (fun x => decide (x = n))
def placeF (l : List Int) (n : Int) : Int := idxI (l.findIdx? (fun x => decide (x = n)))
theorem index_spec (l : List Int) (n : Int) : CallsTo Tryd.prog 53 [intsD l, .int n] (.int (placeF l n)) := by
 refine callsTo_of Tryd.func53 rfl (by decide +kernel) (Nat.le_of_ble_eq_true rfl) ?_
 intro hat B X w0
 have hl := at_len 0 hat rfl
 rw [List.length_map] at hl
 repeat' first | refine pw_step rfl ?_ | refine pw_ret ?_ | refine wR ?_ | (refine wpG_split rfl rfl (fun hc => ?_) (fun hc => ?_) <;> try simp only [hcL] at hc) | (refine pw_cond _ rfl rfl (fun hc => ?_) (fun hc => ?_) <;> (try simp only [hcL] at hc) <;> try omega) | simp (disch := omega) only [go_sem, simprocAttr] | apply And.intro | omega | decide +kernel
 refine pw_loopI (κ := Nat) (fun (k : Nat) => k ≤ l.length ∧ ∀ (j : Nat) y, j < k → l[j]? = some y → (decide (y = n)) = false) (fun (k : Nat) => [(0, .d (intsD l)), (1, .int n), (7, .int l.length), (8, .int k)]) (fun (k : Nat) => []) (fun (k : Nat) => l.length - k) 0 ?_ ?_ ?_
 ·exact ⟨Nat.zero_le _, fun j y h => by omega⟩
 ·exact eL [] _ _ (by refine ⟨?_, ?_⟩ <;> (repeat' first | exact fmn | refine fmc ⟨(by first | rfl | (simp (disch := omega) only [go_sem, simprocAttr, inL]; first | done | omega | (congr 1; done))), ?_⟩); done)
 ·rintro k ⟨hk, hinv⟩
  rcases Nat.lt_or_ge k l.length with hlt | hge
  ·obtain ⟨p, hp⟩ := get_some hlt
   repeat' first | refine pw_step rfl ?_ | refine pw_ret ?_ | refine wR ?_ | (refine wpG_split rfl rfl (fun hc => ?_) (fun hc => ?_) <;> try simp only [hcL] at hc) | (refine pw_cond _ rfl rfl (fun hc => ?_) (fun hc => ?_) <;> (try simp only [hcL] at hc) <;> try omega) | simp (disch := omega) only [go_sem, simprocAttr, hp] | apply And.intro | omega | decide +kernel
   ·refine int_some ?_
    rw [placeF, findIdx_at hp (by simpa using hc.symm) hinv]; rfl
   ·refine ⟨k + 1, ?_, eL [] _ _ (by refine ⟨?_, ?_⟩ <;> (repeat' first | exact fmn | refine fmc ⟨(by first | rfl | (simp (disch := omega) only [go_sem, simprocAttr, inL]; first | done | omega | (congr 1; done))), ?_⟩); done), ?_⟩
    ·exact ⟨by omega, upto_succ hinv hp (by simpa using fun h => hc h.symm)⟩
    ·omega
  ·repeat' first | refine pw_step rfl ?_ | refine pw_ret ?_ | refine wR ?_ | (refine wpG_split rfl rfl (fun hc => ?_) (fun hc => ?_) <;> try simp only [hcL] at hc) | (refine pw_cond _ rfl rfl (fun hc => ?_) (fun hc => ?_) <;> (try simp only [hcL] at hc) <;> try omega) | simp (disch := omega) only [go_sem, simprocAttr] | apply And.intro | omega | decide +kernel
   refine int_some ?_
   rw [placeF, findIdx_no (fun j y hy => hinv j y (by have := (List.getElem?_eq_some_iff.1 hy).1; omega) hy)]; rfl
theorem contains_spec (l : List Int) (n : Int) : CallsTo Tryd.prog 52 [intsD l, .int n] (.bool (hasF l n)) := by
 refine callsTo_of Tryd.func52 rfl (by decide +kernel) (Nat.le_of_ble_eq_true rfl) ?_
 intro hat B X w0
 repeat' first | refine pw_step rfl ?_ | refine pw_ret ?_ | refine wR ?_ | (refine rc (index_spec l n) rfl ?_ ?_; (· first | rfl | simp (disch := omega) only [go_sem, simprocAttr])) | (refine wpG_split rfl rfl (fun hc => ?_) (fun hc => ?_) <;> try simp only [hcL] at hc) | (refine pw_cond _ rfl rfl (fun hc => ?_) (fun hc => ?_) <;> (try simp only [hcL] at hc) <;> try omega) | simp (disch := omega) only [go_sem, simprocAttr] | apply And.intro | omega | decide +kernel
 exact bool_some (idx_any _ l)
theorem repeated_spec (l : List Int) (i : Nat) (x : Int) (hx : l[i]? = some x) : CallsTo Tryd.prog 46 [intsD l, .int i] (.bool (hasF (l.take i) x)) := by
 have hi := (List.getElem?_eq_some_iff.1 hx).1
 refine callsTo_of Tryd.func46 rfl (by decide +kernel) (Nat.le_of_ble_eq_true rfl) ?_
 intro hat B X w0
 have hl := at_len 0 hat rfl
 rw [List.length_map] at hl
 have hr := contains_spec (l.take i) x
 simp only [intsD, List.map_take] at hr
 repeat' first | refine pw_step rfl ?_ | refine pw_ret ?_ | refine wR ?_ | (refine rc (hr) rfl ?_ ?_; (· first | rfl | simp (disch := omega) only [go_sem, simprocAttr, hx])) | (refine wpG_split rfl rfl (fun hc => ?_) (fun hc => ?_) <;> try simp only [hcL] at hc) | (refine pw_cond _ rfl rfl (fun hc => ?_) (fun hc => ?_) <;> (try simp only [hcL] at hc) <;> try omega) | simp (disch := omega) only [go_sem, simprocAttr, hx] | exact cells_map D.int 1 (fun _ => rfl) l | apply And.intro | omega | decide +kernel
 exact bool_some rfl

def badAt (l : List Int) (n : Int) (k : Nat) : Int := match l[k]? with
 | some x => if x < 0 ∨ n ≤ x then 3 else if hasF (l.take k) x then 6 else 0
 | none => 0
def listF (l : List Int) (n : Int) : Int := firstE (badAt l n) l.length
theorem listed_spec (l : List Int) (n : Int) : CallsTo Tryd.prog 32 [intsD l, .int n] (.int (listF l n)) := by
 refine callsTo_of Tryd.func32 rfl (by decide +kernel) (Nat.le_of_ble_eq_true rfl) ?_
 intro hat B X w0
 have hl := at_len 0 hat rfl
 rw [List.length_map] at hl
 repeat' first | refine pw_step rfl ?_ | refine pw_ret ?_ | refine wR ?_ | (refine wpG_split rfl rfl (fun hc => ?_) (fun hc => ?_) <;> try simp only [hcL] at hc) | (refine pw_cond _ rfl rfl (fun hc => ?_) (fun hc => ?_) <;> (try simp only [hcL] at hc) <;> try omega) | simp (disch := omega) only [go_sem, simprocAttr] | apply And.intro | omega | decide +kernel
 refine pw_loopI (κ := Nat) (fun (k : Nat) => k ≤ l.length ∧ firstE (badAt l n) k = 0) (fun (k : Nat) => [(0, .d (intsD l)), (1, .int n), (7, .d (intsD l)), (8, .int l.length), (9, .int k)]) (fun (k : Nat) => []) (fun (k : Nat) => l.length - k) 0 ?_ ?_ ?_
 ·exact ⟨Nat.zero_le _, rfl⟩
 ·exact eL [] _ _ (by refine ⟨?_, ?_⟩ <;> (repeat' first | exact fmn | refine fmc ⟨(by first | rfl | (simp (disch := omega) only [go_sem, simprocAttr, inL]; first | done | omega | (congr 1; done))), ?_⟩); done)
 ·rintro k ⟨hk, hinv⟩
  rcases Nat.lt_or_ge k l.length with hlt | hge
  ·obtain ⟨p, hp⟩ := get_some hlt
   have hr := repeated_spec l k p hp
   repeat' first | refine pw_step rfl ?_ | refine pw_ret ?_ | refine wR ?_ | (refine rc (hr) rfl ?_ ?_; (· first | rfl | simp (disch := omega) only [go_sem, simprocAttr, hp])) | (refine wpG_split rfl rfl (fun hc => ?_) (fun hc => ?_) <;> try simp only [hcL] at hc) | (refine pw_cond _ rfl rfl (fun hc => ?_) (fun hc => ?_) <;> (try simp only [hcL] at hc) <;> try omega) | simp (disch := omega) only [go_sem, simprocAttr, hp] | apply And.intro | omega | decide +kernel
   all_goals try
    refine int_some ?_
    first
     | exact (firstE_at hlt hinv (by simp only [badAt, hp]; rw [if_pos (by omega)]) (by decide)).symm
     | exact (firstE_at hlt hinv (by simp only [badAt, hp]; rw [if_neg (by omega), if_pos (by assumption)]) (by decide)).symm
   ·refine ⟨k + 1, ?_, eL [] _ _ (by refine ⟨?_, ?_⟩ <;> (repeat' first | exact fmn | refine fmc ⟨(by first | rfl | (simp (disch := omega) only [go_sem, simprocAttr, inL]; first | done | omega | (congr 1; done))), ?_⟩); done), ?_⟩
    ·refine ⟨by omega, firstE_succ hinv ?_⟩
     simp only [badAt, hp]; rw [if_neg (by omega), if_neg (by simp [*])]
    ·omega
  ·repeat' first | refine pw_step rfl ?_ | refine pw_ret ?_ | refine wR ?_ | (refine wpG_split rfl rfl (fun hc => ?_) (fun hc => ?_) <;> try simp only [hcL] at hc) | (refine pw_cond _ rfl rfl (fun hc => ?_) (fun hc => ?_) <;> (try simp only [hcL] at hc) <;> try omega) | simp (disch := omega) only [go_sem, simprocAttr] | apply And.intro | omega | decide +kernel
   refine int_some ?_
   have : k = l.length := by omega
   rw [listF, ← this, hinv]
end Go.Proofs.YthbcmebhpabpnaaDoor
namespace Go.Proofs.YthbcmebhpabpnaaDoor
open Go Go.PS Go.Proofs
set_option maxRecDepth 100000
attribute [local irreducible] wpRun wpG CallsTo CallsM

theorem arc_cells (l : List Arc) : ∀ d, d ∈ l.map arcD → d.cells.length = 2 := cells_map arcD 2 (fun _ => rfl) l
theorem clone_nil : CallsTo Tryd.prog 33 [arcsD []] (arcsD []) := by
 refine callsTo_of Tryd.func33 rfl (by decide +kernel) (Nat.le_of_ble_eq_true rfl) ?_
 intro hat B X w0
 repeat' first | refine pw_step rfl ?_ | refine pw_ret ?_ | refine wR ?_ | (refine wpG_split rfl rfl (fun hc => ?_) (fun hc => ?_) <;> try simp only [hcL] at hc) | (refine pw_cond _ rfl rfl (fun hc => ?_) (fun hc => ?_) <;> (try simp only [hcL] at hc) <;> try omega) | simp (disch := omega) only [go_sem, simprocAttr] | apply And.intro | omega | decide +kernel
 refine pw_anyb 4 rfl ?_
 intro b
 cases b
 ·repeat' first | refine pw_step rfl ?_ | refine pw_ret ?_ | refine pw_region (Nat.beq 5) hmix ?_ | (refine wpG_split rfl rfl (fun hc => ?_) (fun hc => ?_) <;> try simp only [hcL] at hc) | (refine pw_cond _ rfl rfl (fun hc => ?_) (fun hc => ?_) <;> (try simp only [hcL] at hc) <;> try omega) | simp (disch := omega) only [go_sem, simprocAttr, roomy] | apply And.intro | omega | decide +kernel
  exact sl_some rfl
 ·repeat' first | refine pw_step rfl ?_ | refine pw_ret ?_ | refine wR ?_ | (refine wpG_split rfl rfl (fun hc => ?_) (fun hc => ?_) <;> try simp only [hcL] at hc) | (refine pw_cond _ rfl rfl (fun hc => ?_) (fun hc => ?_) <;> (try simp only [hcL] at hc) <;> try omega) | simp (disch := omega) only [go_sem, simprocAttr] | apply And.intro | omega | decide +kernel
  exact sl_some rfl
theorem clone_spec (l : List Arc) (hl : l ≠ []) (hn : l.length ≤ 1000000) : CallsM Tryd.prog 33 [.d (arcsD l)] [(2000, .dead)] (.ref 2000 2 0 l.length l.length) [(2000, .row 2 (l.map arcD))] := by
 have he : (l.map arcD).isEmpty = false := by simpa using hl
 have hpos : 0 < l.length := List.length_pos_iff.2 hl
 refine callsM_of Tryd.func33 rfl (by decide +kernel) (Nat.le_of_ble_eq_true rfl) rfl (nodup_of rfl) rfl rfl rfl ?_
 intro B X w0
 repeat' first | refine pw_step rfl ?_ | refine pw_region (Nat.beq 5) hmix ?_ | (refine wpG_split rfl rfl (fun hc => ?_) (fun hc => ?_) <;> try simp only [hcL] at hc) | (refine pw_cond _ rfl rfl (fun hc => ?_) (fun hc => ?_) <;> (try simp only [hcL] at hc) <;> try omega) | simp (disch := omega) only [go_sem, simprocAttr, he, roomy, take_map_len] | exact arc_cells l | apply And.intro | omega | decide +kernel
 refine eR [(2000, 7)] [(2, .ref 2000 2 0 _ _)] [(2000, .row 2 _)] (by refine ⟨?_, ?_⟩ <;> (repeat' first | exact fmn | refine fmc ⟨(by first | rfl | (simp (disch := omega) only [go_sem, simprocAttr, inL]; first | done | omega | (congr 1; done))), ?_⟩); done) ?_
 refine pw_ret ?_
 exact ⟨rfl, List.forall_mem_cons.2 ⟨rfl, List.forall_mem_nil _⟩⟩

def swapA (a : Arc) : Arc := (a.2, a.1)
def flipL (l : List Arc) (set : List Int) : List Arc := l.mapIdx fun i a => if hasF set i then swapA a else a
theorem flipL_len (l : List Arc) (set : List Int) : (flipL l set).length = l.length := by simp [flipL]
theorem flipL_get {l : List Arc} {set : List Int} {k : Nat} {a : Arc} (h : l[k]? = some a) : (flipL l set)[k]? = some (if hasF set k then swapA a else a) := by
 simp [flipL, List.getElem?_mapIdx, h]
theorem flipL_nil (l : List Arc) : flipL l [] = l := by
 refine List.ext_getElem? fun u => ?_
 rcases Nat.lt_or_ge u l.length with h | h
 ·obtain ⟨a, ha⟩ := get_some h
  rw [flipL_get ha, ha]; simp [hasF]
 ·rw [List.getElem?_eq_none (by rw [flipL_len]; exact h), List.getElem?_eq_none h]
theorem hasF_succ {set : List Int} {j : Nat} {x : Int} (hx : set[j]? = some x) (n : Int) : hasF (set.take (j + 1)) n = (hasF (set.take j) n || decide (x = n)) := by
 simp [hasF, take_snoc hx]
theorem flip_step {l : List Arc} {set : List Int} {j i : Nat} {a : Arc} (hx : set[j]? = some (i : Int)) (ha : l[i]? = some a) :
  flipL l (set.take (j + 1)) = (flipL l (set.take j)).set i (swapA a) := by
 refine List.ext_getElem? fun u => ?_
 rcases Nat.lt_or_ge u l.length with h | h
 ·obtain ⟨b, hb⟩ := get_some h
  rw [flipL_get hb, hasF_succ hx, List.getElem?_set, flipL_get hb, flipL_len]
  by_cases hi : i = u
  ·subst hi
   rw [ha] at hb; cases hb
   simp [h]
  ·have : ¬ (i : Int) = u := by omega
   simp [hi, this]
 ·rw [List.getElem?_eq_none (by rw [flipL_len]; exact h), List.getElem?_eq_none (by rw [List.length_set, flipL_len]; exact h)]
theorem firstE_le {e : Nat → Int} {n k : Nat} (h : firstE e n = 0) (hk : k < n) : e k = 0 := by
 induction n with
 | zero => omega
 | succ n ih =>
  simp only [firstE] at h
  split at h
  ·rename_i h0
   rcases Nat.lt_succ_iff_lt_or_eq.1 hk with h1 | rfl
   ·exact ih h0 h1
   ·exact h
  ·rename_i h0; exact (h0 h).elim
theorem listF_in {l : List Int} {n : Int} (h : listF l n = 0) {k : Nat} {x : Int} (hx : l[k]? = some x) : 0 ≤ x ∧ x < n := by
 have := firstE_le h (List.getElem?_eq_some_iff.1 hx).1
 simp only [badAt, hx] at this
 split at this
 ·omega
 ·omega
def flipF (g : Gr) (set : List Int) : Gr × Int := if gOk g then (if listF set g.2.length = 0 then ((g.1, flipL g.2 set), 0) else ((0, []), listF set g.2.length)) else ((0, []), 1)
set_option maxHeartbeats 4000000 in
theorem Flip_spec (g : Gr) (set : List Int) : CallsTo Tryd.prog 24 [gD g, intsD set] (.tup [gD (flipF g set).1, .int (flipF g set).2]) := by
 rcases h : gOk g with _ | _
 ·have hv : CallsTo Tryd.prog 23 [gD g] (.bool false) := h ▸ Valid_spec g
  have e : flipF g set = ((0, []), 1) := by simp [flipF, h]
  rw [e]
  refine callsTo_of Tryd.func24 rfl (by decide +kernel) (Nat.le_of_ble_eq_true rfl) ?_
  intro hat B X w0
  repeat' first | refine pw_step rfl ?_ | refine pw_ret ?_ | refine wR ?_ | (refine rc (hv) rfl ?_ ?_; (· first | rfl | simp (disch := omega) only [go_sem, simprocAttr])) | (refine wpG_split rfl rfl (fun hc => ?_) (fun hc => ?_) <;> try simp only [hcL] at hc) | (refine pw_cond _ rfl rfl (fun hc => ?_) (fun hc => ?_) <;> (try simp only [hcL] at hc) <;> try omega) | simp (disch := omega) only [go_sem, simprocAttr] | apply And.intro | omega | decide +kernel
  refine ⟨_, rfl, ⟨_, _, _, _, rfl, ?_⟩, int_some ?_, trivial⟩
  ·simp (disch := omega) only [go_sem, simprocAttr]
   rfl
  ·rfl
 ·have hv : CallsTo Tryd.prog 23 [gD g] (.bool true) := h ▸ Valid_spec g
  obtain ⟨h1, h2, h3, h4⟩ := gOk_in h
  obtain ⟨n, l⟩ := g
  dsimp only at h1 h2 h3 h4
  have hs := listed_spec set l.length
  rcases Decidable.em (listF set l.length = 0) with c | c
  ·have e : flipF (n, l) set = ((n, flipL l set), 0) := by simp [flipF, h, c]
   rw [e]
   rw [c] at hs
   rcases Decidable.em (l = []) with hl0 | hl0
   ·subst hl0
    have hse : set = [] := by
     cases set with
     | nil => rfl
     | cons x t =>
      have := listF_in (x := x) (k := 0) c rfl
      simp at this; omega
    subst hse
    refine callsTo_of Tryd.func24 rfl (by decide +kernel) (Nat.le_of_ble_eq_true rfl) ?_
    intro hat B X w0
    have hcl := clone_nil
    repeat' first | refine pw_step rfl ?_ | refine pw_ret ?_ | refine wR ?_ | (refine rc (hv) rfl ?_ ?_; (· first | rfl | simp (disch := omega) only [go_sem, simprocAttr])) | (refine rc (hs) rfl ?_ ?_; (· first | rfl | simp (disch := omega) only [go_sem, simprocAttr])) | (refine rc (hcl) rfl ?_ ?_; (· first | rfl | simp (disch := omega) only [go_sem, simprocAttr])) | (refine wpG_split rfl rfl (fun hc => ?_) (fun hc => ?_) <;> try simp only [hcL] at hc) | (refine pw_cond _ rfl rfl (fun hc => ?_) (fun hc => ?_) <;> (try simp only [hcL] at hc) <;> try omega) | simp (disch := omega) only [go_sem, simprocAttr] | apply And.intro | omega | decide +kernel
    refine pw_loopI (κ := Nat) (fun (k : Nat) => k = 0) (fun (k : Nat) => [(4, .ptr 4 0 0 0), (7, .ptr 7 0 0 0), (30, .int 0), (31, .int k)]) (fun (k : Nat) => [(4, .cells [.int 0, .nilS]), (7, .cells [.int n, .d (.sl [])])]) (fun (k : Nat) => k) 0 ?_ ?_ ?_
    ·rfl
    ·exact eL [] _ _ (by refine ⟨?_, ?_⟩ <;> (repeat' first | exact fmn | refine fmc ⟨(by first | rfl | (simp (disch := omega) only [go_sem, simprocAttr, inL]; first | done | omega | (congr 1; done))), ?_⟩); done)
    ·rintro k rfl
     repeat' first | refine pw_step rfl ?_ | refine pw_ret ?_ | refine wR ?_ | (refine wpG_split rfl rfl (fun hc => ?_) (fun hc => ?_) <;> try simp only [hcL] at hc) | (refine pw_cond _ rfl rfl (fun hc => ?_) (fun hc => ?_) <;> (try simp only [hcL] at hc) <;> try omega) | simp (disch := omega) only [go_sem, simprocAttr] | apply And.intro | omega | decide +kernel
     refine ⟨_, rfl, ⟨_, _, _, _, rfl, ?_⟩, int_some ?_, trivial⟩
     ·simp (disch := omega) only [go_sem, simprocAttr]
      rfl
     ·rfl
   ·have hcl := clone_spec l hl0 (by omega)
    refine callsTo_of Tryd.func24 rfl (by decide +kernel) (Nat.le_of_ble_eq_true rfl) ?_
    intro hat B X w0
    have hsl := at_len 1 hat rfl
    rw [List.length_map] at hsl
    repeat' first | refine pw_step rfl ?_ | refine pw_ret ?_ | refine wR ?_ | (refine rc (hv) rfl ?_ ?_; (· first | rfl | simp (disch := omega) only [go_sem, simprocAttr])) | (refine rc (hs) rfl ?_ ?_; (· first | rfl | simp (disch := omega) only [go_sem, simprocAttr])) | refine rcM [(2000, 27)] (hcl) rfl ?_ | (refine wpG_split rfl rfl (fun hc => ?_) (fun hc => ?_) <;> try simp only [hcL] at hc) | (refine pw_cond _ rfl rfl (fun hc => ?_) (fun hc => ?_) <;> (try simp only [hcL] at hc) <;> try omega) | simp (disch := omega) only [go_sem, simprocAttr] | apply And.intro | omega | decide +kernel
    refine pw_loopI (κ := Nat) (fun (k : Nat) => k ≤ set.length) (fun (k : Nat) => [(2, .ptr 2 0 0 0), (4, .ptr 4 0 0 0), (7, .ptr 7 0 0 0), (29, .d (intsD set)), (30, .int set.length), (31, .int k)]) (fun (k : Nat) => [(2, .cells [.int n, .d (arcsD l)]), (4, .cells [.int 0, .nilS]), (7, .cells [.int n, .ref 27 2 0 l.length l.length]), (27, .row 2 ((flipL l (set.take k)).map arcD))]) (fun (k : Nat) => set.length - k) 0 ?_ ?_ ?_
    ·exact Nat.zero_le _
    ·exact eL [] _ _ (by refine ⟨?_, ?_⟩ <;> (repeat' first | exact fmn | refine fmc ⟨(by first | rfl | (simp (disch := omega) only [go_sem, simprocAttr, inL, List.take_zero, flipL_nil]; first | done | omega | (congr 1; done))), ?_⟩); done)
    ·intro k hk
     rcases Nat.lt_or_ge k set.length with hlt | hge
     ·obtain ⟨x, hx⟩ := get_some hlt
      have hxi := listF_in c hx
      obtain ⟨i, rfl⟩ : ∃ i : Nat, x = i := ⟨x.toNat, by omega⟩
      obtain ⟨p, hp⟩ := get_some (show i < l.length by omega)
      have hg := flipL_get (set := set.take k) hp
      have hstep := flip_step hx hp
      have hlen := flipL_len l (set.take k)
      repeat' first | refine pw_step rfl ?_ | refine pw_ret ?_ | refine wR ?_ | (refine wpG_split rfl rfl (fun hc => ?_) (fun hc => ?_) <;> try simp only [hcL] at hc) | (refine pw_cond _ rfl rfl (fun hc => ?_) (fun hc => ?_) <;> (try simp only [hcL] at hc) <;> try omega) | simp (disch := omega) only [go_sem, simprocAttr, hx, hp, hg, hlen] | apply And.intro | omega | decide +kernel
      refine ⟨k + 1, ?_, eL [] _ _ (by refine ⟨?_, ?_⟩ <;> (repeat' first | exact fmn | refine fmc ⟨(by first | rfl | (simp (disch := omega) only [go_sem, simprocAttr, inL, hstep, List.map_set]; first | done | omega | (congr 1; done))), ?_⟩); done), ?_⟩
      ·omega
      ·omega
     ·repeat' first | refine pw_step rfl ?_ | refine pw_ret ?_ | refine wR ?_ | (refine wpG_split rfl rfl (fun hc => ?_) (fun hc => ?_) <;> try simp only [hcL] at hc) | (refine pw_cond _ rfl rfl (fun hc => ?_) (fun hc => ?_) <;> (try simp only [hcL] at hc) <;> try omega) | simp (disch := omega) only [go_sem, simprocAttr] | apply And.intro | omega | decide +kernel
      have : k = set.length := by omega
      subst this
      refine ⟨_, rfl, ⟨_, _, _, _, rfl, ?_⟩, int_some ?_, trivial⟩
      ·simp (disch := omega) only [go_sem, simprocAttr]
       simp [toD, gD, arcsD, flipL_len, List.take_of_length_le]
      ·rfl
  ·have e : flipF (n, l) set = ((0, []), listF set l.length) := by simp [flipF, h, c]
   rw [e]
   refine callsTo_of Tryd.func24 rfl (by decide +kernel) (Nat.le_of_ble_eq_true rfl) ?_
   intro hat B X w0
   repeat' first | refine pw_step rfl ?_ | refine pw_ret ?_ | refine wR ?_ | (refine rc (hv) rfl ?_ ?_; (· first | rfl | simp (disch := omega) only [go_sem, simprocAttr])) | (refine rc (hs) rfl ?_ ?_; (· first | rfl | simp (disch := omega) only [go_sem, simprocAttr])) | (refine wpG_split rfl rfl (fun hc => ?_) (fun hc => ?_) <;> try simp only [hcL] at hc) | (refine pw_cond _ rfl rfl (fun hc => ?_) (fun hc => ?_) <;> (try simp only [hcL] at hc) <;> try omega) | simp (disch := omega) only [go_sem, simprocAttr] | apply And.intro | omega | decide +kernel
   refine ⟨_, rfl, ⟨_, _, _, _, rfl, ?_⟩, int_some ?_, trivial⟩
   ·simp (disch := omega) only [go_sem, simprocAttr]
    rfl
   ·rfl
end Go.Proofs.YthbcmebhpabpnaaDoor
namespace Go.Proofs.YthbcmebhpabpnaaDoor
open Go Go.PS Go.Proofs
open Go.Cy (NA)
set_option maxRecDepth 100000
attribute [local irreducible] wpRun wpG CallsTo CallsM

def tzF : Nat → Nat → Nat
 | 0, _ => 0
 | f + 1, x => if x % 2 = 1 then 0 else tzF f (x / 2) + 1
def tz (x : Nat) : Nat := tzF 8 x
theorem tabs_eq : tabs Tryd.prog = [(1, db64)] := by kernel_rfl
theorem tabOf_len : (tabOf [(1, db64)] 1).length = 64 := by decide +kernel
def tzI (x : Nat) : Nat := ((IntKind.u64.wrap (IntKind.u64.wrap ((BitVec.ofInt 64 (x : Int) &&& BitVec.ofInt 64 (IntKind.u64.wrap (-(x : Int)))).toNat : Int) * 285870213051353865)).fdiv (2 ^ min 58 64)).toNat
theorem tz_all : ∀ x : Nat, x < 256 → 0 < x → (IntKind.u64.wrap (IntKind.u64.wrap ((BitVec.ofInt 64 (x : Int) &&& BitVec.ofInt 64 (IntKind.u64.wrap (-(x : Int)))).toNat : Int) * 285870213051353865)).fdiv (2 ^ min 58 64) = (tzI x : Int) ∧ tzI x < 64 ∧ db64[tzI x]? = some (tz x : Int) := by decide +kernel
theorem tz_drop {k : Nat} {v : Int} (h : db64[k]? = some v) : (tabOf [(1, db64)] 1).drop k = D.sc (.int .u8 v) :: (tabOf [(1, db64)] 1).drop (k + 1) := by
 have h1 : (tabOf [(1, db64)] 1)[k]? = some (D.sc (.int .u8 v)) := by
  show (db64.map fun v => D.sc (.int .u8 v))[k]? = _
  rw [List.getElem?_map, h]; rfl
 obtain ⟨h2, h3⟩ := List.getElem?_eq_some_iff.1 h1
 rw [List.drop_eq_getElem_cons h2, h3]
set_option maxHeartbeats 4000000 in
theorem TZ64_spec (x : Nat) (h0 : 0 < x) (h1 : x < 256) : CallsTo Tryd.prog 51 [.sc (.int .u64 x)] (.int (tz x)) := by
 obtain ⟨k, e1, e2, e3⟩ : ∃ k : Nat, (IntKind.u64.wrap (IntKind.u64.wrap ((BitVec.ofInt 64 (x : Int) &&& BitVec.ofInt 64 (IntKind.u64.wrap (-(x : Int)))).toNat : Int) * 285870213051353865)).fdiv (2 ^ min 58 64) = (k : Int) ∧ k < 64 ∧ db64[k]? = some (tz x : Int) := ⟨_, tz_all x h1 h0⟩
 have e4 := tz_drop e3
 have e5 : (0 : Int) ≤ k := Int.natCast_nonneg _
 have e6 : IntKind.i64.wrap (tz x : Int) = tz x := by
  have : ∀ x : Nat, x < 256 → IntKind.i64.wrap (tz x : Int) = tz x := by decide +kernel
  exact this x h1
 refine callsTo_of Tryd.func51 rfl (by decide +kernel) (Nat.le_of_ble_eq_true rfl) ?_
 intro hat B X w0
 repeat' first | refine pw_step rfl ?_ | refine pw_ret ?_ | refine wR ?_ | (refine wpG_split rfl rfl (fun hc => ?_) (fun hc => ?_) <;> try simp only [hcL] at hc) | (refine pw_cond _ rfl rfl (fun hc => ?_) (fun hc => ?_) <;> (try simp only [hcL] at hc) <;> try omega) | simp (disch := omega) only [go_sem, simprocAttr, tabs_eq, e1, e4, e6, e2, tabOf_len, Int.toNat_natCast] | apply And.intro | omega | decide +kernel
 exact int_some rfl
set_option maxHeartbeats 4000000 in
theorem TZ_spec (x : Nat) (h0 : 0 < x) (h1 : x < 256) : CallsTo Tryd.prog 44 [.sc (.int .u64 x)] (.int (tz x)) := by
 have h := TZ64_spec x h0 h1
 refine callsTo_of Tryd.func44 rfl (by decide +kernel) (Nat.le_of_ble_eq_true rfl) ?_
 intro hat B X w0
 repeat' first | refine pw_step rfl ?_ | refine pw_ret ?_ | refine wR ?_ | (refine rc (h) rfl ?_ ?_; (· first | rfl | simp (disch := omega) only [go_sem, simprocAttr])) | (refine wpG_split rfl rfl (fun hc => ?_) (fun hc => ?_) <;> try simp only [hcL] at hc) | (refine pw_cond _ rfl rfl (fun hc => ?_) (fun hc => ?_) <;> (try simp only [hcL] at hc) <;> try omega) | simp (disch := omega) only [go_sem, simprocAttr] | apply And.intro | omega | decide +kernel
 exact int_some rfl
end Go.Proofs.YthbcmebhpabpnaaDoor
namespace Go.Proofs.YthbcmebhpabpnaaDoor
open Go Go.PS Go.Proofs
open Go.Cy (NA costL costN costAt costG costOk foldMin atN inB leastN fmF OrdR)
set_option maxRecDepth 100000
attribute [local irreducible] wpRun wpG CallsTo CallsM

abbrev natD (n : Nat) : D := .int n
abbrev natsD (l : List Nat) : D := .sl (l.map natD)
def xRest (c : Nat → Nat → Nat) (f : PV) : List PV := (List.range 64).map (fun i => PV.int (c (i / 8) (i % 8))) ++ [f]
theorem x_len (c : Nat → Nat → Nat) (f : PV) : (xRest c f).length = 65 := by simp [xRest]
theorem x_at (c : Nat → Nat → Nat) (f : PV) {v u : Nat} (hv : v < 8) (hu : u < 8) : ∃ r, (xRest c f).drop (v * 8 + u) = .int (c v u) :: r := by
 have h1 : (xRest c f)[v * 8 + u]? = some (.int (c v u)) := by
  rw [xRest, List.getElem?_append_left (by simp; omega), List.getElem?_map, List.getElem?_range (by omega)]
  simp only [Option.map_some]
  rw [show (v * 8 + u) / 8 = v by omega, show (v * 8 + u) % 8 = u by omega]
 obtain ⟨h2, h3⟩ := List.getElem?_eq_some_iff.1 h1
 exact ⟨_, by rw [List.drop_eq_getElem_cons h2, h3]⟩
theorem x_count (n : PV) (c : Nat → Nat → Nat) (f : PV) {v u : Nat} (hv : v < 8) (hu : u < 8) : ∃ r, (n :: xRest c f).drop (1 + v * 8 + u) = .int (c v u) :: r := by
 rw [show 1 + v * 8 + u = (v * 8 + u) + 1 by omega, List.drop_succ_cons]
 exact x_at c f hv hu
theorem x_first (c : Nat → Nat → Nat) (f : PV) : (xRest c f).drop 64 = [f] := by
 rw [xRest, List.drop_left' (by simp)]
theorem bits_step8 : ∀ x : Nat, x < 256 → 0 < x → tz x < 8 ∧ Go.Cy.bits 8 x = tz x :: Go.Cy.bits 8 (x &&& (x - 1)) ∧ (x &&& (x - 1)) < x := by decide +kernel
theorem bits_8 {n s : Nat} (h : n ≤ 8) (hs : s < 2 ^ n) : Go.Cy.bits n s = Go.Cy.bits 8 s := by
 have e : List.range 8 = List.range n ++ (List.range (8 - n)).map (n + ·) := by
  rw [show 8 = n + (8 - n) by omega, List.range_add]; simp
 rw [Go.Cy.bits, Go.Cy.bits, e, List.filter_append]
 have : ((List.range (8 - n)).map (n + ·)).filter (fun u => s.testBit u) = [] := by
  rw [List.filter_eq_nil_iff]
  intro u hu
  obtain ⟨k, _, rfl⟩ := List.mem_map.1 hu
  rw [Nat.testBit_lt_two_pow (Nat.lt_of_lt_of_le hs (Nat.pow_le_pow_right (by decide) (by omega)))]
  decide
 rw [this, List.append_nil]
theorem tz_n {n x : Nat} (h : n ≤ 8) (h0 : 0 < x) (hx : x < 2 ^ n) : tz x < n := by
 have := Go.Cy.pow_le8 h
 obtain ⟨_, h2, _⟩ := bits_step8 x (by omega) h0
 have h3 : tz x ∈ Go.Cy.bits n x := by rw [bits_8 h hx, h2]; simp
 exact (Go.Cy.mem_bits.1 h3).1
def sumB (f : Nat → Nat) (x : Nat) : Nat := ((Go.Cy.bits 8 x).map f).sum
theorem sumB_step {f : Nat → Nat} {x : Nat} (hx : x < 256) (h0 : 0 < x) : sumB f x = f (tz x) + sumB f (x &&& (x - 1)) := by
 obtain ⟨_, h2, _⟩ := bits_step8 x hx h0
 rw [sumB, h2]; simp [sumB]
theorem sumB_zero (f : Nat → Nat) : sumB f 0 = 0 := by
 have : Go.Cy.bits 8 0 = [] := by decide +kernel
 rw [sumB, this]; rfl
theorem sum_le {f : Nat → Nat} {k : Nat} : ∀ {l : List Nat}, (∀ u, u ∈ l → f u ≤ k) → (l.map f).sum ≤ l.length * k
 | [], _ => by simp
 | x :: l, h => by
  have h1 := h x (by simp)
  have h2 := sum_le fun u hu => h u (List.mem_cons_of_mem _ hu)
  simp only [List.map_cons, List.sum_cons, List.length_cons, Nat.add_mul]; omega
theorem sumB_le {f : Nat → Nat} {k x : Nat} (h : ∀ u, f u ≤ k) : sumB f x ≤ 8 * k := by
 refine Nat.le_trans (sum_le fun u _ => h u) (Nat.mul_le_mul_right _ ?_)
 exact Nat.le_trans (List.length_filter_le _ _) (by simp)
theorem costN_le (n : Nat) (c : Nat → Nat → Nat) (fm : List Nat) (s : Nat) : costN n c fm s ≤ 1048576 := by
 cases s with
 | zero => rw [Go.Cy.costN_zero]; omega
 | succ k => rw [Go.Cy.costN_succ, costAt]; exact Go.Cy.foldMin_le.1
def accK (n : Nat) (c : Nat → Nat → Nat) (fm : List Nat) (k v : Nat) : Nat := foldMin (costOk n fm (k + 1)) (costG n c (costL n c fm k) (k + 1)) (List.range v) 1048576
theorem accK_zero (n : Nat) (c : Nat → Nat → Nat) (fm : List Nat) (k : Nat) : accK n c fm k 0 = 1048576 := rfl
theorem accK_succ (n : Nat) (c : Nat → Nat → Nat) (fm : List Nat) (k v : Nat) : accK n c fm k (v + 1) = if costOk n fm (k + 1) v = true then min (accK n c fm k v) (costG n c (costL n c fm k) (k + 1) v) else accK n c fm k v := by
 simp [accK, foldMin, List.range_succ]
def rowK (n : Nat) (c : Nat → Nat → Nat) (fm : List Nat) (L k : Nat) (x : Nat) : List D := (costL n c fm k).map natD ++ natD x :: List.replicate (L - (k + 2)) (.int 0)
def rowP (n : Nat) (c : Nat → Nat → Nat) (fm : List Nat) (L k : Nat) : List D := (costL n c fm k).map natD ++ List.replicate (L - (k + 1)) (.int 0)
theorem rowK_set (n : Nat) (c : Nat → Nat → Nat) (fm : List Nat) (L k x y : Nat) : (rowK n c fm L k x).set (k + 1) (natD y) = rowK n c fm L k y := by
 have h := Go.Cy.costL_len n c fm k
 rw [rowK, List.set_append_right _ _ (by simp [h]), List.length_map, h, Nat.sub_self]; rfl
theorem rowP_set (n : Nat) (c : Nat → Nat → Nat) (fm : List Nat) {L k : Nat} (y : Nat) (hk : k + 1 < L) : (rowP n c fm L k).set (k + 1) (natD y) = rowK n c fm L k y := by
 have h := Go.Cy.costL_len n c fm k
 rw [rowP, List.set_append_right _ _ (by simp [h]), List.length_map, h, Nat.sub_self, show L - (k + 1) = (L - (k + 2)) + 1 by omega, List.replicate_succ]; rfl
theorem rowK_len (n : Nat) (c : Nat → Nat → Nat) (fm : List Nat) {L k x : Nat} (hk : k + 1 < L) : (rowK n c fm L k x).length = L := by
 simp [rowK, Go.Cy.costL_len]; omega
theorem rowP_len (n : Nat) (c : Nat → Nat → Nat) (fm : List Nat) {L k : Nat} (hk : k < L) : (rowP n c fm L k).length = L := by
 simp [rowP, Go.Cy.costL_len]; omega
theorem costL_get (n : Nat) (c : Nat → Nat → Nat) (fm : List Nat) {k s : Nat} (h : s ≤ k) : (costL n c fm k)[s]? = some (costN n c fm s) := by
 have h1 : s < (costL n c fm k).length := by rw [Go.Cy.costL_len]; omega
 have h2 := Go.Cy.costL_at n c fm h
 rw [atN, List.getElem?_eq_getElem h1] at h2
 rw [List.getElem?_eq_getElem h1]
 simp only [Option.getD_some] at h2
 rw [h2]
theorem rowK_get (n : Nat) (c : Nat → Nat → Nat) (fm : List Nat) {L k x s : Nat} (h : s ≤ k) : (rowK n c fm L k x)[s]? = some (natD (costN n c fm s)) := by
 rw [rowK, List.getElem?_append_left (by simp [Go.Cy.costL_len]; omega), List.getElem?_map, costL_get n c fm h]; rfl
theorem rowK_cur (n : Nat) (c : Nat → Nat → Nat) (fm : List Nat) (L k x : Nat) : (rowK n c fm L k x)[k + 1]? = some (natD x) := by
 have h := Go.Cy.costL_len n c fm k
 rw [rowK, List.getElem?_append_right (by simp [h])]; simp [h]
theorem rowP_get (n : Nat) (c : Nat → Nat → Nat) (fm : List Nat) {L k s : Nat} (h : s ≤ k) : (rowP n c fm L k)[s]? = some (natD (costN n c fm s)) := by
 rw [rowP, List.getElem?_append_left (by simp [Go.Cy.costL_len]; omega), List.getElem?_map, costL_get n c fm h]; rfl
theorem rowP_next (n : Nat) (c : Nat → Nat → Nat) (fm : List Nat) {L k : Nat} (h : k + 1 < L) : (rowP n c fm L k)[k + 1]? = some (.int 0) := by
 have h1 := Go.Cy.costL_len n c fm k
 rw [rowP, List.getElem?_append_right (by simp [h1]), List.getElem?_replicate]
 simp [h1]; omega
theorem rowK_done (n : Nat) (c : Nat → Nat → Nat) (fm : List Nat) (L k : Nat) : rowK n c fm L k (accK n c fm k n) = rowP n c fm L (k + 1) := by
 have : costL n c fm (k + 1) = costL n c fm k ++ [accK n c fm k n] := rfl
 rw [rowK, rowP, this, List.map_append, List.append_assoc]; rfl
theorem rowP_zero (n : Nat) (c : Nat → Nat → Nat) (fm : List Nat) {L : Nat} (h : 0 < L) : rowP n c fm L 0 = List.replicate L (.int 0) := by
 obtain ⟨k, rfl⟩ : ∃ k, L = k + 1 := ⟨L - 1, by omega⟩
 rw [List.replicate_succ]; rfl
set_option maxHeartbeats 8000000 in
theorem least_spec (n : Nat) (c : Nat → Nat → Nat) (fm : List Nat) (h8 : n ≤ 8) (hcc : ∀ u v, c u v ≤ 256) (hl : fm.length = n) (hf : ∀ v, atN fm v < 2 ^ n) :
  CallsM Tryd.prog 30 [.ptr 1000 0 0 0] [(1000, .cells (.int n :: xRest c (.ref 1001 1 0 n n))), (1001, .row 1 (fm.map natD))] (.int (leastN n c fm)) [(1000, .cells (.int n :: xRest c (.ref 1001 1 0 n n))), (1001, .row 1 (fm.map natD))] := by
 have hpos := Go.Cy.pow_pos' n
 have hp8 := Go.Cy.pow_le8 h8
 have hsh := shl_pow n h8
 obtain ⟨L, hL⟩ : ∃ L, L = 2 ^ n := ⟨_, rfl⟩
 rw [← hL] at hpos hp8 hsh
 have hx1 := x_first c (.ref 1001 1 0 n n)
 refine callsM_of Tryd.func30 rfl (by decide +kernel) (Nat.le_of_ble_eq_true rfl) rfl (nodup_of rfl) rfl rfl rfl ?_
 intro B X w0
 repeat' first | refine pw_step rfl ?_ | refine pw_ret ?_ | refine wR ?_ | (refine wpG_split rfl rfl (fun hc => ?_) (fun hc => ?_) <;> try simp only [hcL] at hc) | (refine pw_cond _ rfl rfl (fun hc => ?_) (fun hc => ?_) <;> (try simp only [hcL] at hc) <;> try omega) | simp (disch := omega) only [go_sem, simprocAttr, hsh, List.append_eq] | apply And.intro | omega | decide +kernel
 refine pw_loopI (κ := Nat) (fun (k : Nat) => k < L) (fun (k : Nat) => [(0, .ptr 1000 0 0 0), (3, .ref 14 1 0 L L), (4, .int (k + 1 : Nat))]) (fun (k : Nat) => [(14, .row 1 (rowP n c fm L k)), (1000, .cells (.int n :: xRest c (.ref 1001 1 0 n n))), (1001, .row 1 (fm.map natD))]) (fun (k : Nat) => L - k) 0 ?_ ?_ ?_
 ·exact hpos
 ·exact eL [] _ _ (by refine ⟨?_, ?_⟩ <;> (repeat' first | exact fmn | refine fmc ⟨(by first | rfl | (simp (disch := omega) only [go_sem, simprocAttr, inL, rowP_zero n c fm hpos]; first | done | omega | (congr 1; done))), ?_⟩); done)
 ·intro k hk
  have hpl := rowP_len n c fm hk
  rcases Nat.lt_or_ge (k + 1) L with hlt | hge
  ·have hset := rowP_set n c fm 1048576 hlt
   have hnx := rowP_next n c fm hlt
   repeat' first | refine pw_step rfl ?_ | refine pw_ret ?_ | refine wR ?_ | (refine wpG_split rfl rfl (fun hc => ?_) (fun hc => ?_) <;> try simp only [hcL] at hc) | (refine pw_cond _ rfl rfl (fun hc => ?_) (fun hc => ?_) <;> (try simp only [hcL] at hc) <;> try omega) | simp (disch := omega) only [go_sem, simprocAttr, hx1, List.append_eq, hpl, hset, hnx] | apply And.intro | omega | decide +kernel
   refine pw_loopI (κ := Nat) (fun (v : Nat) => v ≤ n) (fun (v : Nat) => [(0, .ptr 1000 0 0 0), (3, .ref 14 1 0 L L), (4, .int (k + 1 : Nat)), (27, .int n), (28, .int v)]) (fun (v : Nat) => [(14, .row 1 (rowK n c fm L k (accK n c fm k v))), (1000, .cells (.int n :: xRest c (.ref 1001 1 0 n n))), (1001, .row 1 (fm.map natD))]) (fun (v : Nat) => n - v) 0 ?_ ?_ ?_
   ·exact Nat.zero_le _
   ·exact eL [] _ _ (by refine ⟨?_, ?_⟩ <;> (repeat' first | exact fmn | refine fmc ⟨(by first | rfl | (simp (disch := omega) only [go_sem, simprocAttr, inL, accK_zero]; first | done | omega | (congr 1; done))), ?_⟩); done)
   ·intro v hv
    have hkl : (rowK n c fm L k (accK n c fm k v)).length = L := rowK_len n c fm hlt
    rcases Nat.lt_or_ge v n with hvl | hvg
    ·obtain ⟨f, hfv⟩ := get_some (show v < fm.length by omega)
     have hfa : atN fm v = f := by rw [atN, hfv]; rfl
     have hf8 : f < 2 ^ n := by rw [← hfa]; exact hf v
     have hb := shr_bit (k + 1) (by omega) v (by omega)
     have hsucc := accK_succ n c fm k v
     by_cases hbit : (k + 1).testBit v = true
     ·rw [if_pos hbit] at hb
      obtain ⟨p, hp⟩ : ∃ p, p = 2 ^ v := ⟨_, rfl⟩
      obtain ⟨r, hr⟩ : ∃ r, r = k + 1 - 2 ^ v := ⟨_, rfl⟩
      have hrk := (Go.Cy.clr (k + 1) (by omega) v (by omega) hbit).1
      rw [← hr] at hrk
      have hp8' : p < 256 := by rw [hp]; exact Nat.pow_lt_pow_right (n := 8) (by decide) (by omega)
      have e1 := shl_pow v (by omega)
      rw [← hp] at e1
      have e2 := bv_andn (a := k + 1) (b := p) (by omega) (by omega)
      rw [hp, andn_pow (k + 1) (by omega) v (by omega) hbit, ← hr, ← hp] at e2
      have e3 := bv_andn (a := f) (b := r) (by omega) (by omega)
      have hz := andn_zero (b := r) hf8
      have hok : costOk n fm (k + 1) v = inB n f r := by rw [costOk, hbit, hfa, hr]; rfl
      rw [hok] at hsucc
      have hg := rowK_get n c fm (L := L) (x := accK n c fm k v) (show r ≤ k by omega)
      rcases hin : inB n f r with _ | _
      ·rw [hin] at hsucc hz
       have hz' : ¬ ((andn f r : Nat) : Int) = 0 := fun h => by have := hz.1 (by omega); cases this
       repeat' first | refine pw_step rfl ?_ | refine pw_ret ?_ | refine wR ?_ | (refine wpG_split rfl rfl (fun hc => ?_) (fun hc => ?_) <;> try simp only [hcL] at hc) | (refine pw_cond _ rfl rfl (fun hc => ?_) (fun hc => ?_) <;> (try simp only [hcL] at hc) <;> try omega) | simp (disch := omega) only [go_sem, simprocAttr, hx1, List.append_eq, hkl, hfv, hb, e1, e2, e3, hz'] | apply And.intro | omega | decide +kernel
       refine ⟨v + 1, ?_, eL [] _ _ (by refine ⟨?_, ?_⟩ <;> (repeat' first | exact fmn | refine fmc ⟨(by first | rfl | (simp (disch := omega) only [go_sem, simprocAttr, inL, hsucc, if_neg Bool.false_ne_true]; first | done | omega | (congr 1; done))), ?_⟩); done), ?_⟩
       ·omega
       ·omega
      ·rw [hin] at hsucc hz
       have hz' := hz.2 rfl
       have hr8 : r < 256 := by omega
       have hcg : costG n c (costL n c fm k) (k + 1) v = costN n c fm r + sumB (c v) r := by
        rw [costG, ← hr, Go.Cy.costL_at n c fm (by omega), bits_8 h8 (by omega)]; rfl
       have hcn := costN_le n c fm r
       have hsb := sumB_le (x := r) (hcc v)
       repeat' first | refine pw_step rfl ?_ | refine pw_ret ?_ | refine wR ?_ | (refine wpG_split rfl rfl (fun hc => ?_) (fun hc => ?_) <;> try simp only [hcL] at hc) | (refine pw_cond _ rfl rfl (fun hc => ?_) (fun hc => ?_) <;> (try simp only [hcL] at hc) <;> try omega) | simp (disch := omega) only [go_sem, simprocAttr, hx1, List.append_eq, hkl, hfv, hb, e1, e2, e3, hz', hg] | apply And.intro | omega | decide +kernel
       refine pw_loopI (κ := Nat × Nat) (fun (q : Nat × Nat) => match q with | (x, y) => x ≤ r ∧ y + sumB (c v) x = costG n c (costL n c fm k) (k + 1) v) (fun (q : Nat × Nat) => match q with | (x, y) => [(0, .ptr 1000 0 0 0), (3, .ref 14 1 0 L L), (4, .int (k + 1 : Nat)), (5, .int v), (7, .int y), (8, .int x), (27, .int n), (28, .int v)]) (fun (q : Nat × Nat) => match q with | (x, y) => [(14, .row 1 (rowK n c fm L k (accK n c fm k v))), (1000, .cells (.int n :: xRest c (.ref 1001 1 0 n n))), (1001, .row 1 (fm.map natD))]) (fun (q : Nat × Nat) => match q with | (x, y) => x) (r, costN n c fm r) ?_ ?_ ?_
       ·exact ⟨Nat.le_refl _, hcg.symm⟩
       ·exact eL [] _ _ (by refine ⟨?_, ?_⟩ <;> (repeat' first | exact fmn | refine fmc ⟨(by first | rfl | (simp (disch := omega) only [go_sem, simprocAttr, inL]; first | done | omega | (congr 1; done))), ?_⟩); done)
       ·rintro ⟨x, y⟩ ⟨hxr, hy⟩
        dsimp only at hxr hy ⊢
        rcases Nat.eq_zero_or_pos x with rfl | hx0
        ·rw [sumB_zero, Nat.add_zero] at hy
         have hcu := rowK_cur n c fm L k (accK n c fm k v)
         have hst := rowK_set n c fm L k (accK n c fm k v)
         have hmin : (if (y : Int) < (accK n c fm k v : Nat) then (y : Int) else (accK n c fm k v : Nat)) = (min (accK n c fm k v) y : Nat) := by omega
         repeat' first | refine pw_step rfl ?_ | refine pw_ret ?_ | refine wR ?_ | (refine wpG_split rfl rfl (fun hc => ?_) (fun hc => ?_) <;> try simp only [hcL] at hc) | (refine pw_cond _ rfl rfl (fun hc => ?_) (fun hc => ?_) <;> (try simp only [hcL] at hc) <;> try omega) | simp (disch := omega) only [go_sem, simprocAttr, hx1, List.append_eq, hkl, hcu, hst, hmin] | apply And.intro | omega | decide +kernel
         refine ⟨v + 1, ?_, eL [] _ _ (by refine ⟨?_, ?_⟩ <;> (repeat' first | exact fmn | refine fmc ⟨(by first | rfl | (simp (disch := omega) only [go_sem, simprocAttr, inL, hsucc, if_pos, hy]; first | done | omega | (congr 1; done))), ?_⟩); done), ?_⟩
         ·omega
         ·omega
        ·have htz := TZ_spec x hx0 (by omega)
         have htn := tz_n h8 hx0 (by omega : x < 2 ^ n)
         have hstep := sumB_step (f := c v) (show x < 256 by omega) hx0
         have hlt2 := (bits_step8 x (by omega) hx0).2.2
         obtain ⟨q, hq⟩ := x_count (.int n) c (.ref 1001 1 0 n n) (show v < 8 by omega) (show tz x < 8 by omega)
         have hcv := hcc v (tz x)
         have hw := wrap_in (x := (y : Int) + (c v (tz x) : Nat)) (by omega) (by omega)
         have hu64 : IntKind.u64.wrap (x : Int) = x := by
          have : ∀ x : Nat, x < 256 → IntKind.u64.wrap (x : Int) = x := by decide +kernel
          exact this x (by omega)
         have hand := bv_and (a := x) (b := x - 1) (by omega) (by omega)
         have hx1' : ((x : Int) - 1) = ((x - 1 : Nat) : Int) := by omega
         repeat' first | refine pw_step rfl ?_ | refine pw_ret ?_ | refine wR ?_ | (refine rc (htz) rfl ?_ ?_; (· first | rfl | simp (disch := omega) only [go_sem, simprocAttr, hx1, List.append_eq, hkl, hu64, hq, hw, hx1', hand])) | (refine wpG_split rfl rfl (fun hc => ?_) (fun hc => ?_) <;> try simp only [hcL] at hc) | (refine pw_cond _ rfl rfl (fun hc => ?_) (fun hc => ?_) <;> (try simp only [hcL] at hc) <;> try omega) | simp (disch := omega) only [go_sem, simprocAttr, hx1, List.append_eq, hkl, hu64, hq, hw, hx1', hand] | apply And.intro | omega | decide +kernel
         refine ⟨(x &&& (x - 1), y + c v (tz x)), ?_, eL [] _ _ (by refine ⟨?_, ?_⟩ <;> (repeat' first | exact fmn | refine fmc ⟨(by first | rfl | (simp (disch := omega) only [go_sem, simprocAttr, inL]; first | done | omega | (congr 1; done))), ?_⟩); done), ?_⟩
         ·dsimp only
          exact ⟨by omega, by omega⟩
         ·exact hlt2
     ·rw [if_neg hbit] at hb
      have hok : costOk n fm (k + 1) v = false := by rw [costOk]; simp [hbit]
      rw [hok] at hsucc
      repeat' first | refine pw_step rfl ?_ | refine pw_ret ?_ | refine wR ?_ | (refine wpG_split rfl rfl (fun hc => ?_) (fun hc => ?_) <;> try simp only [hcL] at hc) | (refine pw_cond _ rfl rfl (fun hc => ?_) (fun hc => ?_) <;> (try simp only [hcL] at hc) <;> try omega) | simp (disch := omega) only [go_sem, simprocAttr, hx1, List.append_eq, hkl, hfv, hb] | apply And.intro | omega | decide +kernel
      refine ⟨v + 1, ?_, eL [] _ _ (by refine ⟨?_, ?_⟩ <;> (repeat' first | exact fmn | refine fmc ⟨(by first | rfl | (simp (disch := omega) only [go_sem, simprocAttr, inL, hsucc, if_neg Bool.false_ne_true]; first | done | omega | (congr 1; done))), ?_⟩); done), ?_⟩
      ·omega
      ·omega
    ·have : v = n := by omega
     subst this
     repeat' first | refine pw_step rfl ?_ | refine pw_ret ?_ | refine wR ?_ | (refine wpG_split rfl rfl (fun hc => ?_) (fun hc => ?_) <;> try simp only [hcL] at hc) | (refine pw_cond _ rfl rfl (fun hc => ?_) (fun hc => ?_) <;> (try simp only [hcL] at hc) <;> try omega) | simp (disch := omega) only [go_sem, simprocAttr, hx1] | apply And.intro | omega | decide +kernel
     refine ⟨k + 1, ?_, eL [] _ _ (by refine ⟨?_, ?_⟩ <;> (repeat' first | exact fmn | refine fmc ⟨(by first | rfl | (simp (disch := omega) only [go_sem, simprocAttr, inL, rowK_done]; first | done | omega | (congr 1; done))), ?_⟩); done), ?_⟩
     ·omega
     ·omega
  ·have : k + 1 = L := by omega
   have hlg := rowP_get n c fm (L := L) (k := k) (Nat.le_refl k)
   have e1 : (L : Int) - 1 = k := by omega
   have e2 : leastN n c fm = costN n c fm k := by rw [leastN]; congr 1; omega
   rw [e2]
   repeat' first | refine pw_step rfl ?_ | refine pw_ret ?_ | refine wR ?_ | (refine wpG_split rfl rfl (fun hc => ?_) (fun hc => ?_) <;> try simp only [hcL] at hc) | (refine pw_cond _ rfl rfl (fun hc => ?_) (fun hc => ?_) <;> (try simp only [hcL] at hc) <;> try omega) | simp (disch := omega) only [go_sem, simprocAttr, hpl, e1, hlg] | apply And.intro | omega | decide +kernel
   exact rfl
end Go.Proofs.YthbcmebhpabpnaaDoor
namespace Go.Proofs.YthbcmebhpabpnaaDoor
open Go Go.PS Go.Proofs
open Go.Cy (NA InN atN leastN cnt ind orAt decS decN sizeN leastS)
set_option maxRecDepth 100000
attribute [local irreducible] wpRun wpG CallsTo CallsM

def castA (l : List NA) : List Arc := l.map fun a => ((a.1 : Int), (a.2 : Int))
theorem castA_len (l : List NA) : (castA l).length = l.length := by simp [castA]
theorem castA_get {l : List NA} {k : Nat} {a : NA} (h : l[k]? = some a) : (castA l)[k]? = some ((a.1 : Int), (a.2 : Int)) := by simp [castA, h]
theorem gOk_nat {g : Gr} (h : gOk g = true) : ∃ (n : Nat) (l : List NA), g = ((n : Int), castA l) ∧ n ≤ 64 ∧ l.length ≤ 256 ∧ InN n l := by
 obtain ⟨h1, h2, h3, h4⟩ := gOk_in h
 obtain ⟨m, l⟩ := g
 dsimp only at h1 h2 h3 h4
 refine ⟨m.toNat, l.map fun a => (a.1.toNat, a.2.toNat), ?_, by omega, by simpa using h3, ?_⟩
 ·have e : castA (l.map fun a => (a.1.toNat, a.2.toNat)) = l := by
   refine List.ext_getElem? fun k => ?_
   rw [castA, List.map_map, List.getElem?_map]
   cases hk : l[k]? with
   | none => rfl
   | some a =>
    obtain ⟨g1, g2, g3, g4⟩ := h4 k a hk
    simp only [Option.map_some, Function.comp, Option.some.injEq]
    rw [show ((a.1.toNat : Nat) : Int) = a.1 by omega, show ((a.2.toNat : Nat) : Int) = a.2 by omega]
  rw [e, show ((m.toNat : Nat) : Int) = m by omega]
 ·intro b hb
  obtain ⟨a, ha, rfl⟩ := List.mem_map.1 hb
  obtain ⟨k, hk⟩ := List.mem_iff_getElem?.1 ha
  obtain ⟨g1, g2, g3, g4⟩ := h4 k a hk
  dsimp only; omega
theorem x_refs (objs : Nat → Ob) (k : Nat) (c : Nat → Nat → Nat) (f : PV) : (xRest c f).flatMap (PV.refs objs k) = PV.refs objs k f := by
 have h : ∀ l : List Nat, (l.map (fun i => PV.int (c (i / 8) (i % 8)))).flatMap (PV.refs objs k) = [] := by
  intro l
  induction l with
  | nil => rfl
  | cons a l ih => rw [List.map_cons, List.flatMap_cons, ih]; cases k <;> rfl
 rw [xRest, List.flatMap_append, h]
 simp
theorem x_ren (g : Nat → Nat) (c : Nat → Nat → Nat) (f : PV) : (xRest c f).map (PV.ren g) = xRest c (f.ren g) := by
 rw [xRest, xRest, List.map_append, List.map_map]; rfl
theorem x_splice (n : PV) (c c' : Nat → Nat → Nat) (f : PV) {u v : Nat} (hu : u < 8) (hv : v < 8) (h : ∀ i j, i < 8 → j < 8 → c' i j = if i = u ∧ j = v then c u v + 1 else c i j) :
  splice (n :: xRest c f) (1 + u * 8 + v) [.int ((c u v : Int) + 1)] = n :: xRest c' f := by
 have e : splice (n :: xRest c f) (1 + u * 8 + v) [.int ((c u v : Int) + 1)] = n :: splice (xRest c f) (u * 8 + v) [.int ((c u v : Int) + 1)] := by
  rw [splice, splice, show 1 + u * 8 + v = (u * 8 + v) + 1 by omega, List.take_succ_cons]
  simp only [List.length_cons, List.length_nil, Nat.zero_add, List.cons_append]
  rw [show u * 8 + v + 1 + 1 = (u * 8 + v + 1) + 1 from rfl, List.drop_succ_cons]
 rw [e]
 congr 1
 refine List.ext_getElem? fun k => ?_
 rw [getElem?_splice _ _ _ (by simp [x_len]; omega)]
 simp only [List.length_cons, List.length_nil, Nat.zero_add]
 rcases Nat.lt_or_ge k 64 with hk | hk
 ·have hg : ∀ d : Nat → Nat → Nat, (xRest d f)[k]? = some (.int (d (k / 8) (k % 8))) := fun d => by
   rw [xRest, List.getElem?_append_left (by simp; omega), List.getElem?_map, List.getElem?_range hk]; rfl
  rw [hg, hg, h (k / 8) (k % 8) (by omega) (by omega)]
  by_cases hc : k = u * 8 + v
  ·subst hc
   rw [if_neg (by omega), if_pos (by omega), if_pos (by omega)]
   simp
  ·rw [if_neg (show ¬ (k / 8 = u ∧ k % 8 = v) by omega)]
   split
   ·rfl
   ·rw [if_neg (by omega)]
 ·rw [if_neg (by omega), if_neg (by omega)]
  have hg : ∀ d : Nat → Nat → Nat, (xRest d f)[k]? = [f][k - 64]? := fun d => by
   rw [xRest, List.getElem?_append_right (by simp; omega)]; simp
  rw [hg, hg]
theorem x_swap (n : PV) (c : Nat → Nat → Nat) (f f' : PV) : splice (n :: xRest c f) 65 [f'] = n :: xRest c f' := by
 have h : (List.map (fun i => PV.int (c (i / 8) (i % 8))) (List.range 64)).length = 64 := by simp
 rw [splice, xRest, show 65 = 64 + 1 from rfl, List.take_succ_cons, List.take_left' h]
 simp only [List.length_cons, List.length_nil, Nat.zero_add]
 rw [List.drop_eq_nil_of_le (by simp)]
 simp [xRest]
theorem cnt_snoc (l : List NA) (a : NA) (u v : Nat) : cnt (l ++ [a]) u v = cnt l u v + ind a u v := by
 have := Go.Cy.cnt_cons a [] u v
 simp only [cnt, List.filter_append, List.length_append, List.filter_nil, List.length_nil] at this ⊢
 omega
theorem cnt_le (l : List NA) (u v : Nat) : cnt l u v ≤ l.length := List.length_filter_le _ _
theorem orAt_row {fm : List Nat} {v u f : Nat} (h : fm[v]? = some f) : (fm.map natD).set v (.int ((f ||| 2 ^ u : Nat) : Int)) = (orAt fm v u).map natD := by
 rw [orAt, List.map_set, atN, h]; rfl
theorem nat_cells (l : List Nat) : ∀ d, d ∈ l.map natD → d.cells.length = 1 := cells_map natD 1 (fun _ => rfl) l
theorem nat_one (x : Int) : ∀ d, d ∈ [D.int x] → d.cells.length = 1 := by intro d hd; rw [List.mem_singleton] at hd; subst hd; rfl
set_option maxHeartbeats 8000000 in
theorem Least_bad (g : Gr) (h : gOk g = false) : CallsTo Tryd.prog 16 [gD g] (.tup [.sl [], .int 1]) := by
 have hv : CallsTo Tryd.prog 23 [gD g] (.bool false) := h ▸ Valid_spec g
 refine callsTo_of Tryd.func16 rfl (by decide +kernel) (Nat.le_of_ble_eq_true rfl) ?_
 intro hat B X w0
 repeat' first | refine pw_step rfl ?_ | refine pw_ret ?_ | refine wR ?_ | (refine rc (hv) rfl ?_ ?_; (· first | rfl | simp (disch := omega) only [go_sem, simprocAttr])) | (refine wpG_split rfl rfl (fun hc => ?_) (fun hc => ?_) <;> try simp only [hcL] at hc) | (refine pw_cond _ rfl rfl (fun hc => ?_) (fun hc => ?_) <;> (try simp only [hcL] at hc) <;> try omega) | simp (disch := omega) only [go_sem, simprocAttr] | apply And.intro | omega | decide +kernel
 exact ⟨_, rfl, rfl, rfl, trivial⟩
set_option maxHeartbeats 8000000 in
theorem Least_big (g : Gr) (h : gOk g = true) (h8 : 8 < g.1) : CallsTo Tryd.prog 16 [gD g] (.tup [.sl [], .int 2]) := by
 have hv : CallsTo Tryd.prog 23 [gD g] (.bool true) := h ▸ Valid_spec g
 refine callsTo_of Tryd.func16 rfl (by decide +kernel) (Nat.le_of_ble_eq_true rfl) ?_
 intro hat B X w0
 repeat' first | refine pw_step rfl ?_ | refine pw_ret ?_ | refine wR ?_ | (refine rc (hv) rfl ?_ ?_; (· first | rfl | simp (disch := omega) only [go_sem, simprocAttr])) | (refine wpG_split rfl rfl (fun hc => ?_) (fun hc => ?_) <;> try simp only [hcL] at hc) | (refine pw_cond _ rfl rfl (fun hc => ?_) (fun hc => ?_) <;> (try simp only [hcL] at hc) <;> try omega) | simp (disch := omega) only [go_sem, simprocAttr] | apply And.intro | omega | decide +kernel
 exact ⟨_, rfl, rfl, rfl, trivial⟩
set_option maxHeartbeats 16000000 in
theorem Least_ok (n : Nat) (l : List NA) (h : gOk ((n : Int), castA l) = true) (hi : InN n l) (hll : l.length ≤ 256) (h8 : n ≤ 8) : CallsTo Tryd.prog 16 [gD ((n : Int), castA l)] (.tup [natsD (leastS n l), .int 0]) := by
 have hv : CallsTo Tryd.prog 23 [gD ((n : Int), castA l)] (.bool true) := h ▸ Valid_spec _
 have hcl := castA_len l
 refine callsTo_of Tryd.func16 rfl (by decide +kernel) (Nat.le_of_ble_eq_true rfl) ?_
 intro hat B X w0
 repeat' first | refine pw_step rfl ?_ | refine pw_ret ?_ | refine wR ?_ | (refine rc (hv) rfl ?_ ?_; (· first | rfl | simp (disch := omega) only [go_sem, simprocAttr, List.append_eq, hcl])) | (refine wpG_split rfl rfl (fun hc => ?_) (fun hc => ?_) <;> try simp only [hcL] at hc) | (refine pw_cond _ rfl rfl (fun hc => ?_) (fun hc => ?_) <;> (try simp only [hcL] at hc) <;> try omega) | simp (disch := omega) only [go_sem, simprocAttr, List.append_eq, hcl] | apply And.intro | omega | decide +kernel
 refine pw_loopI (κ := Nat) (fun (k : Nat) => k ≤ l.length) (fun (k : Nat) => [(1, .ptr 1 0 0 0), (4, .ptr 26 0 0 0), (28, .d (arcsD (castA l))), (29, .int l.length), (30, .int k)]) (fun (k : Nat) => [(1, .cells [.int n, .d (arcsD (castA l))]), (26, .cells (.int n :: xRest (cnt (l.take k)) (.ref 24 1 0 n n))), (24, .row 1 ((List.replicate n 0).map natD))]) (fun (k : Nat) => l.length - k) 0 ?_ ?_ ?_
 ·exact Nat.zero_le _
 ·exact eL [] _ _ (by refine ⟨?_, ?_⟩ <;> (repeat' first | exact fmn | refine fmc ⟨(by first | rfl | (simp (disch := omega) only [go_sem, simprocAttr, inL, List.map_replicate]; first | done | omega | (congr 1; done))), ?_⟩); done)
 ·intro k hk
  rcases Nat.lt_or_ge k l.length with hlt | hge
  ·obtain ⟨a, ha⟩ := get_some hlt
   have hp := castA_get ha
   have hin := hi a (List.mem_of_getElem? ha)
   have htk : l.take (k + 1) = l.take k ++ [a] := take_snoc ha
   by_cases c : a.1 = a.2
   ·have e : cnt (l.take (k + 1)) = cnt (l.take k) := by
     funext u v
     rw [htk, cnt_snoc, ind, if_neg (fun h => h.1 c)]; rfl
    have c' : (a.1 : Int) = a.2 := by omega
    repeat' first | refine pw_step rfl ?_ | refine pw_ret ?_ | refine wR ?_ | (refine wpG_split rfl rfl (fun hc => ?_) (fun hc => ?_) <;> try simp only [hcL] at hc) | (refine pw_cond _ rfl rfl (fun hc => ?_) (fun hc => ?_) <;> (try simp only [hcL] at hc) <;> try omega) | simp (disch := omega) only [go_sem, simprocAttr, hp, hcl, c'] | apply And.intro | omega | decide +kernel
    refine ⟨k + 1, ?_, eL [] _ _ (by refine ⟨?_, ?_⟩ <;> (repeat' first | exact fmn | refine fmc ⟨(by first | rfl | (simp (disch := omega) only [go_sem, simprocAttr, inL, e]; first | done | omega | (congr 1; done))), ?_⟩); done), ?_⟩
    ·omega
    ·omega
   ·have c' : ¬ (a.1 : Int) = a.2 := by omega
    obtain ⟨q, hq⟩ := x_count (.int n) (cnt (l.take k)) (.ref 24 1 0 n n) (show a.1 < 8 by omega) (show a.2 < 8 by omega)
    have hle := cnt_le (l.take k) a.1 a.2
    rw [List.length_take] at hle
    have hw := wrap_in (x := (cnt (l.take k) a.1 a.2 : Int) + 1) (by omega) (by omega)
    have hs := x_splice (.int n) (cnt (l.take k)) (cnt (l.take (k + 1))) (.ref 24 1 0 n n) (show a.1 < 8 by omega) (show a.2 < 8 by omega) (fun i j _ _ => by
     rw [htk, cnt_snoc, ind]
     by_cases c2 : i = a.1 ∧ j = a.2
     ·rw [if_pos c2, if_pos ⟨c, c2.1.symm, c2.2.symm⟩, c2.1, c2.2]
     ·rw [if_neg c2, if_neg (fun h => c2 ⟨h.2.1.symm, h.2.2.symm⟩)]; rfl)
    have hxl : (PV.int n :: xRest (cnt (l.take k)) (.ref 24 1 0 n n)).length = 66 := by rw [List.length_cons, x_len]
    repeat' first | refine pw_step rfl ?_ | refine pw_ret ?_ | refine wR ?_ | (refine wpG_split rfl rfl (fun hc => ?_) (fun hc => ?_) <;> try simp only [hcL] at hc) | (refine pw_cond _ rfl rfl (fun hc => ?_) (fun hc => ?_) <;> (try simp only [hcL] at hc) <;> try omega) | simp (disch := omega) only [go_sem, simprocAttr, hp, hcl, c', hq, hw, hs, x_len] | apply And.intro | omega | decide +kernel
    refine ⟨k + 1, ?_, eL [] _ _ (by refine ⟨?_, ?_⟩ <;> (repeat' first | exact fmn | refine fmc ⟨(by first | rfl | (simp (disch := omega) only [go_sem, simprocAttr, inL]; first | done | omega | (congr 1; done))), ?_⟩); done), ?_⟩
    ·omega
    ·omega
  ·have hk : k = l.length := by omega
   subst hk
   rw [List.take_length]
   have hrn : (List.replicate n 0).length = n := List.length_replicate
   have hc256 : ∀ u v, cnt l u v ≤ 256 := fun u v => Nat.le_trans (cnt_le l u v) hll
   have hdec := Go.Cy.dec_all h8 hi (by omega : l.length < 1048576)
   have hl0 := least_spec n (cnt l) (List.replicate n 0) h8 hc256 hrn (fun v => by rw [Go.Cy.atN_rep]; exact Go.Cy.pow_pos' n)
   repeat' first | refine pw_step rfl ?_ | refine pw_ret ?_ | refine wR ?_ | refine rcM [(1000, 26), (1001, 24)] (hl0) rfl ?_ | (refine wpG_split rfl rfl (fun hc => ?_) (fun hc => ?_) <;> try simp only [hcL] at hc) | (refine pw_cond _ rfl rfl (fun hc => ?_) (fun hc => ?_) <;> (try simp only [hcL] at hc) <;> try omega) | simp (disch := omega) only [go_sem, simprocAttr, hcl, x_refs, List.flatMap_cons] | apply And.intro | omega | decide +kernel
   refine eR [(900, 24)] [(1, .ptr 1 0 0 0), (4, .ptr 26 0 0 0), (7, .int (sizeN n l)), (8, .nilS), (58, .d (arcsD (castA l))), (59, .int l.length), (60, .int (0 : Nat))] [(1, .cells [.int n, .d (arcsD (castA l))]), (26, .cells (.int n :: xRest (cnt l) (.ref 900 1 0 n n))), (900, .row 1 ((List.replicate n 0).map natD))] (by refine ⟨?_, ?_⟩ <;> (repeat' first | exact fmn | refine fmc ⟨(by first | rfl | (simp (disch := omega) only [go_sem, simprocAttr, inL]; first | done | omega | (congr 1; done))), ?_⟩); done) ?_
   refine pw_ent _ (ent_nil 8 901 1 rfl rfl) ?_
   refine pw_loopI (κ := Nat) (fun (k : Nat) => k ≤ l.length) (fun (k : Nat) => [(1, .ptr 1 0 0 0), (4, .ptr 26 0 0 0), (7, .int (sizeN n l)), (8, .ref 901 1 0 (decN n (cnt l) (sizeN n l) l k).2.length (decN n (cnt l) (sizeN n l) l k).2.length), (58, .d (arcsD (castA l))), (59, .int l.length), (60, .int k)]) (fun (k : Nat) => [(1, .cells [.int n, .d (arcsD (castA l))]), (26, .cells (.int n :: xRest (cnt l) (.ref 900 1 0 n n))), (900, .row 1 ((decN n (cnt l) (sizeN n l) l k).1.map natD)), (901, .row 1 ((decN n (cnt l) (sizeN n l) l k).2.map natD))]) (fun (k : Nat) => l.length - k) 0 ?_ ?_ ?_
   ·exact Nat.zero_le _
   ·exact eL [] _ _ (by refine ⟨?_, ?_⟩ <;> (repeat' first | exact fmn | refine fmc ⟨(by first | rfl | (simp (disch := omega) only [go_sem, simprocAttr, inL]; first | done | omega | (congr 1; done))), ?_⟩); done)
   ·intro k hk
    rcases Nat.lt_or_ge k l.length with hlt | hge
    ·obtain ⟨a, ha⟩ := get_some hlt
     have hp := castA_get ha
     have hin := hi a (List.mem_of_getElem? ha)
     have hD := hdec k hk
     have hDs : decN n (cnt l) (sizeN n l) l (k + 1) = decS n (cnt l) (sizeN n l) k a (decN n (cnt l) (sizeN n l) l k) := by rw [decN, ha]
     revert hD hDs
     generalize decN n (cnt l) (sizeN n l) l k = st
     obtain ⟨fm, Dk⟩ := st
     intro hD hDs
     dsimp only at hD ⊢
     have hfl := hD.len
     have hDl : Dk.length ≤ k := Go.Cy.nd_le (hD.asc.imp fun h => Nat.ne_of_lt h) hD.below
     by_cases c : a.1 = a.2
     ·rw [decS, if_pos c] at hDs
      have c' : (a.1 : Int) = a.2 := by omega
      repeat' first | refine pw_step rfl ?_ | refine pw_ret ?_ | refine wR ?_ | (refine wpG_split rfl rfl (fun hc => ?_) (fun hc => ?_) <;> try simp only [hcL] at hc) | (refine pw_cond _ rfl rfl (fun hc => ?_) (fun hc => ?_) <;> (try simp only [hcL] at hc) <;> try omega) | simp (disch := omega) only [go_sem, simprocAttr, hp, hcl, c'] | apply And.intro | omega | decide +kernel
      refine ⟨k + 1, ?_, eL [] _ _ (by refine ⟨?_, ?_⟩ <;> (repeat' first | exact fmn | refine fmc ⟨(by first | rfl | (simp (disch := omega) only [go_sem, simprocAttr, inL, hDs]; first | done | omega | (congr 1; done))), ?_⟩); done), ?_⟩
      ·omega
      ·omega
     ·have c' : ¬ (a.1 : Int) = a.2 := by omega
      rw [decS, if_neg c] at hDs
      have hv1 : a.1 < fm.length := by omega
      have hv2 : a.2 < fm.length := by omega
      obtain ⟨f1, hf1⟩ := get_some hv1
      obtain ⟨f2, hf2⟩ := get_some hv2
      have hx1 := x_first (cnt l) (.ref 900 1 0 n n)
      have hx2 := x_first (cnt l) (.ref 77 1 0 n n)
      have hs1 := x_swap (.int n) (cnt l) (.ref 900 1 0 n n) (.ref 77 1 0 n n)
      have hs2 := x_swap (.int n) (cnt l) (.ref 77 1 0 n n) (.ref 900 1 0 n n)
      have hmf : (fm.map natD).length = n := by rw [List.length_map, hfl]
      have hmt : (fm.map natD).take n = fm.map natD := List.take_of_length_le (by omega)
      have hfa1 : atN fm a.1 = f1 := by rw [atN, hf1]; rfl
      have hfa2 : atN fm a.2 = f2 := by rw [atN, hf2]; rfl
      have hb1 := Nat.lt_of_lt_of_le (hfa1 ▸ hD.lt a.1) (Go.Cy.pow_le8 h8)
      have hb2 := Nat.lt_of_lt_of_le (hfa2 ▸ hD.lt a.2) (Go.Cy.pow_le8 h8)
      have hq1 := orAt_row (u := a.2) hf1
      have hq2 := orAt_row (u := a.1) hf2
      obtain ⟨p1, hp1⟩ : ∃ p, p = 2 ^ a.1 := ⟨_, rfl⟩
      obtain ⟨p2, hp2⟩ : ∃ p, p = 2 ^ a.2 := ⟨_, rfl⟩
      have hb3 : p1 < 256 := by rw [hp1]; exact Nat.pow_lt_pow_right (n := 8) (by decide) (by omega)
      have hb4 : p2 < 256 := by rw [hp2]; exact Nat.pow_lt_pow_right (n := 8) (by decide) (by omega)
      have e1 := shl_pow a.1 (by omega)
      have e2 := shl_pow a.2 (by omega)
      rw [← hp1] at e1 hq2
      rw [← hp2] at e2 hq1
      have o1 := bv_or (a := f1) (b := p2) (by omega) (by omega)
      have o2 := bv_or (a := f2) (b := p1) (by omega) (by omega)
      have hl1 := least_spec n (cnt l) (orAt fm a.1 a.2) h8 hc256 (by rw [orAt, List.length_set, hfl]) (Go.Cy.orAt_lt hv1 hin.2 hD.lt)
      by_cases c2 : leastN n (cnt l) (orAt fm a.1 a.2) = sizeN n l
      ·rw [if_pos c2] at hDs
       have c2' : ((leastN n (cnt l) (orAt fm a.1 a.2) : Nat) : Int) = sizeN n l := by rw [c2]
       repeat' first | refine pw_step rfl ?_ | refine pw_ret ?_ | refine wR ?_ | refine rcM [(1000, 26), (1001, 77)] (hl1) rfl ?_ | (refine wpG_split rfl rfl (fun hc => ?_) (fun hc => ?_) <;> try simp only [hcL] at hc) | (refine pw_cond _ rfl rfl (fun hc => ?_) (fun hc => ?_) <;> (try simp only [hcL] at hc) <;> try omega) | simp (disch := omega) only [go_sem, simprocAttr, hp, hcl, c', hx1, hx2, hs1, x_len, hmf, hmt, List.length_replicate, hfl, hf1, e2, o1, hq1, x_refs, List.flatMap_cons, c2', roomy, take_map_len] | (first | exact nat_cells fm | exact nat_one _) | apply And.intro | omega | decide +kernel
       refine ⟨k + 1, ?_, eL [(900, 77), (901, 106)] _ _ (by refine ⟨?_, ?_⟩ <;> (repeat' first | exact fmn | refine fmc ⟨(by first | rfl | (simp (disch := omega) only [go_sem, simprocAttr, inL, hDs, List.length_append, List.length_singleton, List.map_append, List.map_cons, List.map_nil, Ob.ren, x_ren, List.map_cons]; first | done | omega | (congr 1; done))), ?_⟩); done), ?_⟩
       ·omega
       ·omega
      ·rw [if_neg c2] at hDs
       have c2' : ¬ ((leastN n (cnt l) (orAt fm a.1 a.2) : Nat) : Int) = sizeN n l := by omega
       repeat' first | refine pw_step rfl ?_ | refine pw_ret ?_ | refine wR ?_ | refine rcM [(1000, 26), (1001, 77)] (hl1) rfl ?_ | (refine wpG_split rfl rfl (fun hc => ?_) (fun hc => ?_) <;> try simp only [hcL] at hc) | (refine pw_cond _ rfl rfl (fun hc => ?_) (fun hc => ?_) <;> (try simp only [hcL] at hc) <;> try omega) | simp (disch := omega) only [go_sem, simprocAttr, hp, hcl, c', hx1, hx2, hs1, hs2, x_len, hmf, hmt, List.length_replicate, hfl, hf1, hf2, e1, e2, o1, o2, hq1, hq2, x_refs, x_ren, List.flatMap_cons, c2'] | exact nat_cells fm | apply And.intro | omega | decide +kernel
       refine ⟨k + 1, ?_, eL [] _ _ (by refine ⟨?_, ?_⟩ <;> (repeat' first | exact fmn | refine fmc ⟨(by first | rfl | (simp (disch := omega) only [go_sem, simprocAttr, inL, hDs, Ob.ren, x_ren, List.map_cons]; first | done | omega | (congr 1; done))), ?_⟩); done), ?_⟩
       ·omega
       ·omega
    ·have hk : k = l.length := by omega
     subst hk
     repeat' first | refine pw_step rfl ?_ | refine pw_ret ?_ | refine wR ?_ | (refine wpG_split rfl rfl (fun hc => ?_) (fun hc => ?_) <;> try simp only [hcL] at hc) | (refine pw_cond _ rfl rfl (fun hc => ?_) (fun hc => ?_) <;> (try simp only [hcL] at hc) <;> try omega) | simp (disch := omega) only [go_sem, simprocAttr] | apply And.intro | omega | decide +kernel
     exact ⟨_, rfl, ret_ref (o := 901) rfl rfl (by simp) (by rw [List.take_of_length_le (by simp)]; rfl), int_some rfl, trivial⟩
end Go.Proofs.YthbcmebhpabpnaaDoor
