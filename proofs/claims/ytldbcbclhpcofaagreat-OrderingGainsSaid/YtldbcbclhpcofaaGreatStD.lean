/- Branch and bound: extend and Least. -/
import Derived.Test.YtldbcbclhpcofaaGreatCf
import Derived.Test.YtldbcbclhpcofaaGreatPSBridge
import Derived.Test.YtldbcbclhpcofaaGreatE
set_option linter.unusedSimpArgs false
set_option linter.unusedVariables false
namespace Go.Proofs.YtldbcbclhpcofaaGreat
open Go Go.PS Go.Proofs
open Go.Bd (sm sumC Small low Part bestF foldB better extF foldE more less shut)
set_option maxRecDepth 100000
attribute [local irreducible] wpRun wpG CallsTo CallsM

theorem cloneN_spec (l : List Nat) (hn : l.length ≤ 1000000) : CallsM Tryz.prog 62 [.ref 1000 1 0 l.length l.length] [(1000, .row 1 (l.map natD)), (2000, .dead)] (.ref 2000 1 0 l.length l.length) [(1000, .row 1 (l.map natD)), (2000, .row 1 (l.map natD))] := by
 rcases Decidable.em (l = []) with rfl | hl
 ·refine callsM_of Tryz.func62 rfl (by decide +kernel) (Nat.le_of_ble_eq_true rfl) rfl (nodup_of rfl) rfl rfl rfl ?_
  intro B X w0
  refine pw_post ?_
  repeat' first | refine pw_seq ?_ | refine pw_skip ?_ | refine pw_ret ?_ | refine pw_exit ?_ | refine pw_block ?_ | refine pw_region (fun _ => false) hmix ?_ | (refine wpG_split rfl rfl (fun hc => ?_) (fun hc => ?_) <;> try simp only [hcL, reduceCtorEq] at hc) | (refine pw_cond _ rfl rfl (fun hc => ?_) (fun hc => ?_) <;> (try simp only [hcL, reduceCtorEq] at hc) <;> try (exfalso; omega)) | simp (maxSteps := 1000000) (disch := omega) only [go_sem, simprocAttr] | apply And.intro | omega | decide +kernel
  refine pw_anyb 4 rfl ?_
  intro b
  cases b
  ·repeat' first | refine pw_seq ?_ | refine pw_skip ?_ | refine pw_ret ?_ | refine pw_exit ?_ | refine pw_block ?_ | refine pw_region (Nat.beq 5) hmix ?_ | (refine wpG_split rfl rfl (fun hc => ?_) (fun hc => ?_) <;> try simp only [hcL, reduceCtorEq] at hc) | (refine pw_cond _ rfl rfl (fun hc => ?_) (fun hc => ?_) <;> (try simp only [hcL, reduceCtorEq] at hc) <;> try (exfalso; omega)) | simp (maxSteps := 1000000) (disch := omega) only [go_sem, simprocAttr, roomy] | apply And.intro | omega | decide +kernel
   refine ⟨_, entL_iff.1 (eL [(2000, 7)] [(2, .ref 2000 1 0 0 0)] [(1000, .row 1 []), (2000, .row 1 [])] (by refine ⟨?_, ?_⟩ <;> (repeat' first | exact List.forall_mem_nil _ | refine List.forall_mem_cons.2 ⟨(by first | rfl | (simp (disch := omega) only [go_sem, simprocAttr, inL]; first | done | omega | (congr 1; done))), ?_⟩); done)), ?_⟩
   exact ⟨rfl, List.forall_mem_cons.2 ⟨rfl, List.forall_mem_cons.2 ⟨rfl, List.forall_mem_nil _⟩⟩⟩
  ·repeat' first | refine pw_seq ?_ | refine pw_skip ?_ | refine pw_ret ?_ | refine pw_exit ?_ | refine pw_block ?_ | refine pw_region (fun _ => false) hmix ?_ | (refine wpG_split rfl rfl (fun hc => ?_) (fun hc => ?_) <;> try simp only [hcL, reduceCtorEq] at hc) | (refine pw_cond _ rfl rfl (fun hc => ?_) (fun hc => ?_) <;> (try simp only [hcL, reduceCtorEq] at hc) <;> try (exfalso; omega)) | simp (maxSteps := 1000000) (disch := omega) only [go_sem, simprocAttr] | apply And.intro | omega | decide +kernel
   refine ⟨_, Ent.trans (ent_nil 2 7 1 rfl rfl) (entL_iff.1 (eL [(2000, 7)] [(2, .ref 2000 1 0 0 0)] [(1000, .row 1 []), (2000, .row 1 [])] (by constructor <;> (repeat' first | exact List.forall_mem_nil _ | refine List.forall_mem_cons.2 ⟨rfl, ?_⟩)))), ?_⟩
   exact ⟨rfl, List.forall_mem_cons.2 ⟨rfl, List.forall_mem_cons.2 ⟨rfl, List.forall_mem_nil _⟩⟩⟩
 ·have he : (l.map natD).isEmpty = false := by simpa using hl
  have hpos : 0 < l.length := List.length_pos_iff.2 hl
  have hne : l.length ≠ 0 := by omega
  refine callsM_of Tryz.func62 rfl (by decide +kernel) (Nat.le_of_ble_eq_true rfl) rfl (nodup_of rfl) rfl rfl rfl ?_
  intro B X w0
  refine pw_post ?_
  repeat' first | refine pw_seq ?_ | refine pw_skip ?_ | refine pw_ret ?_ | refine pw_exit ?_ | refine pw_block ?_ | refine pw_region (Nat.beq 5) hmix ?_ | (refine wpG_split rfl rfl (fun hc => ?_) (fun hc => ?_) <;> try simp only [hcL, reduceCtorEq] at hc) | (refine pw_cond _ rfl rfl (fun hc => ?_) (fun hc => ?_) <;> (try simp only [hcL, reduceCtorEq] at hc) <;> try (exfalso; omega)) | simp (maxSteps := 1000000) (disch := omega) only [go_sem, simprocAttr, he, roomy, take_map_len, hne] | exact nat_cells l | apply And.intro | omega | decide +kernel
  refine ⟨_, entL_iff.1 (eL [(2000, 7)] [(2, .ref 2000 1 0 l.length l.length)] [(1000, .row 1 (l.map natD)), (2000, .row 1 (l.map natD))] (by refine ⟨?_, ?_⟩ <;> (repeat' first | exact List.forall_mem_nil _ | refine List.forall_mem_cons.2 ⟨(by first | rfl | (simp (disch := omega) only [go_sem, simprocAttr, inL]; first | done | omega | (congr 1; done))), ?_⟩); done)), ?_⟩
  exact ⟨rfl, List.forall_mem_cons.2 ⟨rfl, List.forall_mem_cons.2 ⟨rfl, List.forall_mem_nil _⟩⟩⟩
def bPV : Option (List Nat × Int) → PV
 | none => .nilS
 | some s => .d (natsD s.1)
def lI : Option (List Nat × Int) → Int
 | none => 0
 | some s => s.2
theorem ext_len (c : Nat → Nat → Int) (n : Nat) : ∀ (f : Nat) (l : List Nat), Part n f l → ∀ (st : Option (List Nat × Int)) (cost rest : Int), (∀ s, st = some s → s.1.length = n) → ∀ s, extF c n f l cost rest st = some s → s.1.length = n
 | 0, l, hp, st, cost, rest, h, s, hs => by
  rw [extF] at hs
  split at hs
  ·exact h s hs
  ·cases hs; have := hp.len; dsimp only; omega
 | f + 1, l, hp, st, cost, rest, h, s, hs => by
  rw [Go.Bd.ext_foldE] at hs
  split at hs
  ·exact h s hs
  ·have key : ∀ k, k ≤ n → ∀ s, foldE c n f l cost rest st k = some s → s.1.length = n := by
    intro k
    induction k with
    | zero => intro _ s hs; exact h s hs
    | succ k ih =>
     intro hk s hs
     by_cases hm : k ∈ l
     ·rw [Go.Bd.foldE_in c n hm] at hs; exact ih (by omega) s hs
     ·rw [Go.Bd.foldE_out c n hm] at hs
      exact ext_len c n f (l ++ [k]) (hp.snoc (by omega) hm) _ _ _ (ih (by omega)) s hs
   exact key n (Nat.le_refl _) s hs
theorem foldE_len {c : Nat → Nat → Int} {n f : Nat} {l : List Nat} (hp : Part n (f + 1) l) {st : Option (List Nat × Int)} {cost rest : Int} (h : ∀ s, st = some s → s.1.length = n) : ∀ k, k ≤ n → ∀ s, foldE c n f l cost rest st k = some s → s.1.length = n := by
 intro k
 induction k with
 | zero => intro _ s hs; exact h s hs
 | succ k ih =>
  intro hk s hs
  by_cases hm : k ∈ l
  ·rw [Go.Bd.foldE_in c n hm] at hs; exact ih (by omega) s hs
  ·rw [Go.Bd.foldE_out c n hm] at hs
   exact ext_len c n f (l ++ [k]) (hp.snoc (by omega) hm) _ _ _ (ih (by omega)) s hs
def ExtOk (m : List (List Int)) (f : Nat) (l : List Nat) (st : Option (List Nat × Int)) (cost rest : Int) : Prop :=
 CallsM Tryz.prog 51 [.ptr 1000 0 0 0, .int cost, .int rest] [(1000, .cells [.d (listsD m), .ref 1001 1 0 l.length l.length, bPV st, .int (lI st)]), (1001, .row 1 (l.map natD)), (2000, .dead)] (.tup [])
  [(1000, .cells [.d (listsD m), .ref 2000 1 0 l.length l.length, bPV (extF (cellAt m) m.length f l cost rest st), .int (lI (extF (cellAt m) m.length f l cost rest st))]), (1001, .gone), (2000, .row 1 (l.map natD))]
structure ExtIn (m : List (List Int)) (l : List Nat) (st : Option (List Nat × Int)) (cost rest : Int) : Prop where
 len : ∀ s, st = some s → s.1.length = m.length
 pos : 0 < m.length ∨ st = none
 c0 : 0 ≤ cost
 c1 : cost ≤ 8000000 * l.length
 r0 : -8000000 * l.length ≤ rest
 r1 : rest ≤ 64000000
theorem ext_shut (m : List (List Int)) (f : Nat) (l : List Nat) (st : Option (List Nat × Int)) (cost rest : Int) (hi : ExtIn m l st cost rest) (hl : l.length ≤ 8) (hsh : shut st (cost + rest) = true) (he : extF (cellAt m) m.length f l cost rest st = st) : ExtOk m f l st cost rest := by
 rw [ExtOk, he]
 rcases st with _ | ⟨b, k⟩
 ·cases hsh
 ·have hk : k ≤ cost + rest := by simpa [shut] using hsh
  have hbl := hi.len _ rfl
  have hpos : 0 < m.length := hi.pos.resolve_right (by simp)
  have hne : (b.map natD).isEmpty = false := by
   cases b with
   | nil => simp at hbl; omega
   | cons x b => rfl
  obtain ⟨_, _, c0, c1, r0, r1⟩ := hi
  simp only [bPV, lI]
  refine callsM_of Tryz.func51 rfl (by decide +kernel) (Nat.le_of_ble_eq_true rfl) rfl (nodup_of rfl) rfl rfl rfl ?_
  intro B X w0
  refine pw_post ?_
  repeat' first | refine pw_seq ?_ | refine pw_skip ?_ | refine pw_ret ?_ | refine pw_exit ?_ | refine pw_block ?_ | refine pw_region (fun _ => false) hmix ?_ | (refine wpG_split rfl rfl (fun hc => ?_) (fun hc => ?_) <;> try simp only [hcL, reduceCtorEq] at hc) | (refine pw_cond _ rfl rfl (fun hc => ?_) (fun hc => ?_) <;> (try simp only [hcL, reduceCtorEq] at hc) <;> try (exfalso; omega)) | simp (maxSteps := 1000000) (disch := omega) only [go_sem, simprocAttr, hne, hk] | apply And.intro | omega | decide +kernel
  refine ⟨_, ent_move 1001 2000 rfl (by decide) (by decide), ?_⟩
  exact ⟨⟨[], rfl, trivial⟩, List.forall_mem_cons.2 ⟨by simp [mvG, upd, obOf, Ob.ren, PV.ren], List.forall_mem_cons.2 ⟨rfl, List.forall_mem_cons.2 ⟨by simp [mvG, upd, obOf, Ob.ren, PV.ren], List.forall_mem_nil _⟩⟩⟩⟩
theorem ext_zero (m : List (List Int)) (hs : Sq m) (h8 : m.length ≤ 8) (l : List Nat) (hp : Part m.length 0 l) (st : Option (List Nat × Int)) (cost rest : Int) (hi : ExtIn m l st cost rest) (hsh : shut st (cost + rest) = false) : ExtOk m 0 l st cost rest := by
 have hll := hp.len
 have hlI : (l.length : Int) = m.length := by omega
 have he : extF (cellAt m) m.length 0 l cost rest st = some (l, cost) := by rw [extF, if_neg (by rw [hsh]; decide)]
 rw [ExtOk, he]
 have hcl := cloneN_spec l (by omega)
 rcases st with _ | ⟨b, k⟩
 ·obtain ⟨_, _, c0, c1, r0, r1⟩ := hi
  simp only [bPV, lI]
  refine callsM_of Tryz.func51 rfl (by decide +kernel) (Nat.le_of_ble_eq_true rfl) rfl (nodup_of rfl) rfl rfl rfl ?_
  intro B X w0
  refine pw_post ?_
  repeat' first | refine pw_seq ?_ | refine pw_skip ?_ | refine pw_ret ?_ | refine pw_exit ?_ | refine pw_block ?_ | refine pw_region (fun _ => false) hmix ?_ | refine rcM [(1000, 1001), (2000, 905)] (hcl) rfl ?_ | (refine wpG_split rfl rfl (fun hc => ?_) (fun hc => ?_) <;> try simp only [hcL, reduceCtorEq] at hc) | (refine pw_cond _ rfl rfl (fun hc => ?_) (fun hc => ?_) <;> (try simp only [hcL, reduceCtorEq] at hc) <;> try (exfalso; omega)) | simp (maxSteps := 1000000) (disch := omega) only [go_sem, simprocAttr, hlI] | apply And.intro | omega | decide +kernel
  refine ⟨_, Ent.trans (entL_iff.1 (eL [] [] [(1000, .cells [.d (listsD m), .ref 1001 1 0 l.length l.length, .ref 905 1 0 l.length l.length, .int cost]), (1001, .row 1 (l.map natD)), (905, .row 1 (l.map natD))] (by constructor <;> (repeat' first | exact List.forall_mem_nil _ | refine List.forall_mem_cons.2 ⟨rfl, ?_⟩)))) (Ent.trans (ent_freeze 905 1 (l.map natD) rfl (noGone_of _ rfl) (by decide)) (ent_move 1001 2000 rfl (by decide) (by decide))), ?_⟩
  exact ⟨⟨[], rfl, trivial⟩, List.forall_mem_cons.2 ⟨by simp [mvG, upd, obOf, Ob.ren, PV.ren, frzObs_at, Ob.frz, PV.frzL, PV.frz, take_map_len, hlI], List.forall_mem_cons.2 ⟨rfl, List.forall_mem_cons.2 ⟨by simp [mvG, upd, obOf, Ob.ren, PV.ren, frzObs_at, Ob.frz], List.forall_mem_nil _⟩⟩⟩⟩
 ·have hk : ¬ k ≤ cost + rest := by simpa [shut] using hsh
  have hbl := hi.len _ rfl
  have hpos : 0 < m.length := hi.pos.resolve_right (by simp)
  have hne : (b.map natD).isEmpty = false := by
   cases b with
   | nil => simp at hbl; omega
   | cons x b => rfl
  obtain ⟨_, _, c0, c1, r0, r1⟩ := hi
  simp only [bPV, lI]
  refine callsM_of Tryz.func51 rfl (by decide +kernel) (Nat.le_of_ble_eq_true rfl) rfl (nodup_of rfl) rfl rfl rfl ?_
  intro B X w0
  refine pw_post ?_
  repeat' first | refine pw_seq ?_ | refine pw_skip ?_ | refine pw_ret ?_ | refine pw_exit ?_ | refine pw_block ?_ | refine pw_region (fun _ => false) hmix ?_ | refine rcM [(1000, 1001), (2000, 905)] (hcl) rfl ?_ | (refine wpG_split rfl rfl (fun hc => ?_) (fun hc => ?_) <;> try simp only [hcL, reduceCtorEq] at hc) | (refine pw_cond _ rfl rfl (fun hc => ?_) (fun hc => ?_) <;> (try simp only [hcL, reduceCtorEq] at hc) <;> try (exfalso; omega)) | simp (maxSteps := 1000000) (disch := omega) only [go_sem, simprocAttr, hne, hk, hlI] | apply And.intro | omega | decide +kernel
  refine ⟨_, Ent.trans (entL_iff.1 (eL [] [] [(1000, .cells [.d (listsD m), .ref 1001 1 0 l.length l.length, .ref 905 1 0 l.length l.length, .int cost]), (1001, .row 1 (l.map natD)), (905, .row 1 (l.map natD))] (by constructor <;> (repeat' first | exact List.forall_mem_nil _ | refine List.forall_mem_cons.2 ⟨rfl, ?_⟩)))) (Ent.trans (ent_freeze 905 1 (l.map natD) rfl (noGone_of _ rfl) (by decide)) (ent_move 1001 2000 rfl (by decide) (by decide))), ?_⟩
  exact ⟨⟨[], rfl, trivial⟩, List.forall_mem_cons.2 ⟨by simp [mvG, upd, obOf, Ob.ren, PV.ren, frzObs_at, Ob.frz, PV.frzL, PV.frz, take_map_len, hlI], List.forall_mem_cons.2 ⟨rfl, List.forall_mem_cons.2 ⟨by simp [mvG, upd, obOf, Ob.ren, PV.ren, frzObs_at, Ob.frz], List.forall_mem_nil _⟩⟩⟩⟩
end Go.Proofs.YtldbcbclhpcofaaGreat
namespace Go.Proofs.YtldbcbclhpcofaaGreat
open Go Go.PS Go.Proofs
open Go.Bd (sm sumC Small low Part bestF foldB better extF foldE more less shut)
set_option maxRecDepth 100000
attribute [local irreducible] wpRun wpG CallsTo CallsM

def moreK (m : List (List Int)) (l : List Nat) (v k : Nat) : Int := sm (fun w => if w ≠ v ∧ w ∉ l then cellAt m v w else 0) k
def lessK (m : List (List Int)) (l : List Nat) (v k : Nat) : Int := sm (fun w => if w ≠ v ∧ w ∉ l then min (cellAt m v w) (cellAt m w v) else 0) k
theorem pd_move {ids : List Nat} {S : St} {o o2 : Nat} (h1 : o ∈ ids) (h2 : o2 < 1000 ∨ 2000 ≤ o2) (h : PassedDead ids S.objs) :
  PassedDead ids (fun x => if x = o then .gone else if x = o2 then (S.objs o).ren (mvG o o2) else (S.objs x).ren (mvG o o2)) := fun i a b hi => by
 dsimp only
 rw [if_neg (fun e : i = o => hi (e ▸ h1)), if_neg (by omega), h i a b hi]; rfl
theorem moreK_in {m : List (List Int)} {l : List Nat} {v k : Nat} (h : ¬ (k ≠ v ∧ k ∉ l)) : moreK m l v (k + 1) = moreK m l v k := by rw [moreK, sm, if_neg h, Int.add_zero]; rfl
theorem moreK_out {m : List (List Int)} {l : List Nat} {v k : Nat} (h : k ≠ v ∧ k ∉ l) : moreK m l v (k + 1) = moreK m l v k + cellAt m v k := by rw [moreK, sm, if_pos h]; rfl
theorem lessK_in {m : List (List Int)} {l : List Nat} {v k : Nat} (h : ¬ (k ≠ v ∧ k ∉ l)) : lessK m l v (k + 1) = lessK m l v k := by rw [lessK, sm, if_neg h, Int.add_zero]; rfl
theorem lessK_out {m : List (List Int)} {l : List Nat} {v k : Nat} (h : k ≠ v ∧ k ∉ l) : lessK m l v (k + 1) = lessK m l v k + min (cellAt m v k) (cellAt m k v) := by rw [lessK, sm, if_pos h]; rfl
set_option maxHeartbeats 16000000 in
theorem ext_main (m : List (List Int)) (hs : Sq m) (h8 : m.length ≤ 8) : ∀ (f : Nat) (l : List Nat), Part m.length f l → ∀ (st : Option (List Nat × Int)) (cost rest : Int), ExtIn m l st cost rest → ExtOk m f l st cost rest := by
 intro f
 induction f with
 | zero =>
  intro l hp st cost rest hi
  have hll := hp.len
  rcases hsh : shut st (cost + rest) with _ | _
  ·exact ext_zero m hs h8 l hp st cost rest hi hsh
  ·exact ext_shut m 0 l st cost rest hi (by omega) hsh (by rw [extF, if_pos hsh])
 | succ f IH =>
  intro l hp st cost rest hi
  have hll := hp.len
  rcases hsh : shut st (cost + rest) with _ | _
  ·rw [ExtOk, Go.Bd.ext_foldE, if_neg (by rw [hsh]; decide)]
   have hlen := foldE_len (cost := cost) (rest := rest) (c := cellAt m) hp hi.len
   have hIH : ∀ v, v < m.length → v ∉ l → ExtOk m f (l ++ [v]) (foldE (cellAt m) m.length f l cost rest st v) (cost + moreK m l v m.length) (rest - lessK m l v m.length) := fun v hv hm => by
    have b1 : 0 ≤ moreK m l v m.length ∧ moreK m l v m.length ≤ 1000000 * m.length := Go.Bd.more_bounds hs.small l hv m.length (Nat.le_refl _)
    have b2 : 0 ≤ lessK m l v m.length ∧ lessK m l v m.length ≤ 1000000 * m.length := Go.Bd.less_bounds hs.small l hv m.length (Nat.le_refl _)
    have b3 := hi.c0
    have b4 := hi.c1
    have b5 := hi.r0
    have b6 := hi.r1
    refine IH _ (hp.snoc hv hm) _ _ _ ⟨hlen v (by omega), .inl (by omega), by omega, ?_, ?_, by omega⟩
    ·rw [List.length_append, Int.natCast_add, Int.mul_add]
     simp only [List.length_cons, List.length_nil]
     omega
    ·rw [List.length_append, Int.natCast_add, Int.mul_add]
     simp only [List.length_cons, List.length_nil]
     omega
   obtain ⟨st0, hst0⟩ : ∃ st0, st = st0 := ⟨_, rfl⟩
   rw [hst0] at hlen hIH ⊢
   obtain ⟨hbl, hpos, c0, c1, r0, r1⟩ := hi
   obtain ⟨⟨be, ke⟩, hend⟩ : ∃ s, foldE (cellAt m) m.length f l cost rest st0 m.length = some s := by
    obtain ⟨s, hx⟩ := Go.Bd.ext_some (c := cellAt m) (f + 1) l hp cost rest st0
    rw [Go.Bd.ext_foldE, if_neg (by rw [← hst0, hsh]; decide)] at hx
    exact ⟨s, hx⟩
   rw [hend]
   all_goals
    rw [← hst0]
    rcases st with _ | ⟨b, k⟩
    all_goals simp only [bPV, lI]
    all_goals
     refine callsM_of Tryz.func51 rfl (by decide +kernel) (Nat.le_of_ble_eq_true rfl) rfl (nodup_of rfl) rfl rfl rfl ?_
    all_goals intro B X w0
    all_goals refine pw_post ?_
    ·have hnl : ¬ (l.length : Int) = m.length := by omega
     repeat' first | refine pw_seq ?_ | refine pw_skip ?_ | refine pw_ret ?_ | refine pw_exit ?_ | refine pw_block ?_ | refine pw_region (fun _ => false) hmix ?_ | (refine wpG_split rfl rfl (fun hc => ?_) (fun hc => ?_) <;> try simp only [hcL, reduceCtorEq] at hc) | (refine pw_cond _ rfl rfl (fun hc => ?_) (fun hc => ?_) <;> (try simp only [hcL, reduceCtorEq] at hc) <;> try (exfalso; omega)) | simp (maxSteps := 1000000) (disch := omega) only [go_sem, simprocAttr, hnl] | apply And.intro | omega | decide +kernel
     refine pw_loopI (κ := Nat) (fun (v : Nat) => v ≤ m.length) (fun (v : Nat) => [(0, .ptr 1000 0 0 0), (1, .int cost), (2, .int rest), (51, .d (listsD m)), (52, .int m.length), (53, .int v)]) (fun (v : Nat) => [(1000, .cells [.d (listsD m), .ref 901 1 0 l.length l.length, bPV (foldE (cellAt m) m.length f l cost rest st0 v), .int (lI (foldE (cellAt m) m.length f l cost rest st0 v))]), (1001, .gone), (901, .row 1 (l.map natD))]) (fun (v : Nat) => m.length - v) 0 ?_ ?_ ?_
     ·exact Nat.zero_le _
     ·try dsimp only
      rw [Go.Bd.foldE_zero, ← hst0]
      exact entL_iff.2 (Ent.trans (ent_move 1001 901 rfl (by decide) (by decide)) (entL_iff.1 (eL [] _ _ (by refine ⟨?_, ?_⟩ <;> (repeat' first | exact List.forall_mem_nil _ | refine List.forall_mem_cons.2 ⟨(by first | rfl | (simp (disch := omega) only [go_sem, simprocAttr, inL, bPV, lI]; first | done | omega | (congr 1; done))), ?_⟩); done) (h7 := pd_move (by simp) (by decide) (by repeat' first | exact pd_dead | exact pd_of _ rfl | refine pd_upd rfl ?_)))))
     ·intro v hv
      have hlv := hlen v hv
      rcases Nat.lt_or_ge v m.length with hlt | hge
      ·have hin := containsN_spec l v
       by_cases hm : v ∈ l
       ·rw [decide_eq_true hm] at hin
        have e1 := Go.Bd.foldE_in (cellAt m) m.length (f := f) (cost := cost) (rest := rest) (st := st0) hm
        rcases hst : foldE (cellAt m) m.length f l cost rest st0 v with _ | ⟨b0, k0⟩ <;> rw [hst] at e1 <;> simp only [bPV, lI]
        all_goals
         repeat' first | refine pw_seq ?_ | refine pw_skip ?_ | refine pw_ret ?_ | refine pw_exit ?_ | refine pw_block ?_ | refine pw_region (fun _ => false) hmix ?_ | (refine rc (hin) rfl ?_ ?_; (· first | rfl | (simp (disch := omega) only [go_sem, simprocAttr, take_map_len]; done))) | (refine wpG_split rfl rfl (fun hc => ?_) (fun hc => ?_) <;> try simp only [hcL, reduceCtorEq] at hc) | (refine pw_cond _ rfl rfl (fun hc => ?_) (fun hc => ?_) <;> (try simp only [hcL, reduceCtorEq] at hc) <;> try (exfalso; omega)) | simp (maxSteps := 1000000) (disch := omega) only [go_sem, simprocAttr, take_map_len] | apply And.intro | omega | decide +kernel
         refine ⟨v + 1, ?_, ?_, ?_⟩
         ·omega
         ·try dsimp only
          rw [e1]
          exact eL [] _ _ (by refine ⟨?_, ?_⟩ <;> (repeat' first | exact List.forall_mem_nil _ | refine List.forall_mem_cons.2 ⟨(by first | rfl | (simp (disch := omega) only [go_sem, simprocAttr, inL, bPV, lI]; first | done | omega | (congr 1; done))), ?_⟩); done)
         ·omega
       ·rw [decide_eq_false hm] at hin
        have e1 := Go.Bd.foldE_out (cellAt m) m.length (f := f) (cost := cost) (rest := rest) (st := st0) hm
        have ih := hIH v hlt hm
        have en : (((l.length + 1 : Nat) : Int) - 1).toNat = l.length := by omega
        have hT : (l.map natD ++ [natD v]).take l.length = l.map natD := List.take_left' (List.length_map ..)
        rcases hst : foldE (cellAt m) m.length f l cost rest st0 v with _ | ⟨b0, k0⟩
        all_goals
         rw [hst] at e1 ih
         have e3 : foldE (cellAt m) m.length f l cost rest st0 (v + 1) = extF (cellAt m) m.length f (l ++ [v]) (cost + moreK m l v m.length) (rest - lessK m l v m.length) _ := e1
         rw [ExtOk, ← e3] at ih
         obtain ⟨⟨b2, k2⟩, hst2⟩ : ∃ s, foldE (cellAt m) m.length f l cost rest st0 (v + 1) = some s := by
          rw [e3]; exact Go.Bd.ext_some f (l ++ [v]) (hp.snoc hlt hm) _ _ _
         rw [hst2] at ih e3
         simp only [bPV, lI, List.length_append, List.length_cons, List.length_nil, List.map_append, List.map_cons, List.map_nil, Nat.zero_add] at ih ⊢
        ·repeat' first | refine pw_seq ?_ | refine pw_skip ?_ | refine pw_ret ?_ | refine pw_exit ?_ | refine pw_block ?_ | refine pw_region (fun _ => false) hmix ?_ | (refine rc (hin) rfl ?_ ?_; (· first | rfl | (simp (disch := omega) only [go_sem, simprocAttr, take_map_len]; done))) | (refine wpG_split rfl rfl (fun hc => ?_) (fun hc => ?_) <;> try simp only [hcL, reduceCtorEq] at hc) | (refine pw_cond _ rfl rfl (fun hc => ?_) (fun hc => ?_) <;> (try simp only [hcL, reduceCtorEq] at hc) <;> try (exfalso; omega)) | simp (maxSteps := 1000000) (disch := omega) only [go_sem, simprocAttr, take_map_len] | apply And.intro | omega | decide +kernel
         refine pw_loopI (κ := Nat) (fun (w : Nat) => w ≤ m.length) (fun (w : Nat) => [(0, .ptr 1000 0 0 0), (1, .int cost), (2, .int rest), (6, .int v), (7, .int (moreK m l v w)), (8, .int (lessK m l v w)), (51, .d (listsD m)), (52, .int m.length), (53, .int v), (65, .d (listsD m)), (66, .int m.length), (67, .int w)]) (fun (w : Nat) => [(1000, .cells [.d (listsD m), .ref 901 1 0 l.length l.length, .nilS, .int 0]), (1001, .gone), (901, .row 1 (l.map natD))]) (fun (w : Nat) => m.length - w) 0 ?_ ?_ ?_
         ·exact Nat.zero_le _
         ·exact eL [] _ _ (by refine ⟨?_, ?_⟩ <;> (repeat' first | exact List.forall_mem_nil _ | refine List.forall_mem_cons.2 ⟨(by first | rfl | (simp (disch := omega) only [go_sem, simprocAttr, inL, moreK, lessK, sm]; first | done | omega | (congr 1; done))), ?_⟩); done)
         ·intro w hw
          have b1 : 0 ≤ moreK m l v w ∧ moreK m l v w ≤ 1000000 * w := Go.Bd.more_bounds hs.small l hlt w hw
          have b2 : 0 ≤ lessK m l v w ∧ lessK m l v w ≤ 1000000 * w := Go.Bd.less_bounds hs.small l hlt w hw
          rcases Nat.lt_or_ge w m.length with hlw | hgw
          ·obtain ⟨p, hp1, hp2, hp3, hp4, hp5⟩ := hs.get hlt hlw
           obtain ⟨q, hq1, hq2, hq3, hq4, hq5⟩ := hs.get hlw hlt
           have hcw := containsN_spec l w
           by_cases d1 : w = v
           ·have e1 := moreK_in (m := m) (l := l) (v := v) (k := w) (fun h => h.1 d1)
            have e2 := lessK_in (m := m) (l := l) (v := v) (k := w) (fun h => h.1 d1)
            have d1I : (w : Int) = v := by omega
            repeat' first | refine pw_seq ?_ | refine pw_skip ?_ | refine pw_ret ?_ | refine pw_exit ?_ | refine pw_block ?_ | refine pw_region (fun _ => false) hmix ?_ | (refine wpG_split rfl rfl (fun hc => ?_) (fun hc => ?_) <;> try simp only [hcL, reduceCtorEq] at hc) | (refine pw_cond _ rfl rfl (fun hc => ?_) (fun hc => ?_) <;> (try simp only [hcL, reduceCtorEq] at hc) <;> try (exfalso; omega)) | simp (maxSteps := 1000000) (disch := omega) only [go_sem, simprocAttr, d1I] | apply And.intro | omega | decide +kernel
            refine ⟨w + 1, ?_, eL [] _ _ (by refine ⟨?_, ?_⟩ <;> (repeat' first | exact List.forall_mem_nil _ | refine List.forall_mem_cons.2 ⟨(by first | rfl | (simp (disch := omega) only [go_sem, simprocAttr, inL, e1, e2]; first | done | omega | (congr 1; done))), ?_⟩); done), ?_⟩
            ·omega
            ·omega
           ·have d1I : ¬ (w : Int) = v := by omega
            by_cases d2 : w ∈ l
            ·have e1 := moreK_in (m := m) (l := l) (v := v) (k := w) (fun h => h.2 d2)
             have e2 := lessK_in (m := m) (l := l) (v := v) (k := w) (fun h => h.2 d2)
             rw [decide_eq_true d2] at hcw
             repeat' first | refine pw_seq ?_ | refine pw_skip ?_ | refine pw_ret ?_ | refine pw_exit ?_ | refine pw_block ?_ | refine pw_region (fun _ => false) hmix ?_ | (refine rc (hcw) rfl ?_ ?_; (· first | rfl | (simp (disch := omega) only [go_sem, simprocAttr, d1I, take_map_len]; done))) | (refine wpG_split rfl rfl (fun hc => ?_) (fun hc => ?_) <;> try simp only [hcL, reduceCtorEq] at hc) | (refine pw_cond _ rfl rfl (fun hc => ?_) (fun hc => ?_) <;> (try simp only [hcL, reduceCtorEq] at hc) <;> try (exfalso; omega)) | simp (maxSteps := 1000000) (disch := omega) only [go_sem, simprocAttr, d1I, take_map_len] | apply And.intro | omega | decide +kernel
             refine ⟨w + 1, ?_, eL [] _ _ (by refine ⟨?_, ?_⟩ <;> (repeat' first | exact List.forall_mem_nil _ | refine List.forall_mem_cons.2 ⟨(by first | rfl | (simp (disch := omega) only [go_sem, simprocAttr, inL, e1, e2]; first | done | omega | (congr 1; done))), ?_⟩); done), ?_⟩
             ·omega
             ·omega
            ·have e1 := moreK_out (m := m) (l := l) (v := v) (k := w) ⟨d1, d2⟩
             have e2 := lessK_out (m := m) (l := l) (v := v) (k := w) ⟨d1, d2⟩
             rw [decide_eq_false d2] at hcw
             repeat' first | refine pw_seq ?_ | refine pw_skip ?_ | refine pw_ret ?_ | refine pw_exit ?_ | refine pw_block ?_ | refine pw_region (fun _ => false) hmix ?_ | (refine rc (hcw) rfl ?_ ?_; (· first | rfl | (simp (disch := omega) only [go_sem, simprocAttr, d1I, take_map_len, hp1, hp3, hq1, hq3, iteI_min]; done))) | (refine wpG_split rfl rfl (fun hc => ?_) (fun hc => ?_) <;> try simp only [hcL, reduceCtorEq] at hc) | (refine pw_cond _ rfl rfl (fun hc => ?_) (fun hc => ?_) <;> (try simp only [hcL, reduceCtorEq] at hc) <;> try (exfalso; omega)) | simp (maxSteps := 1000000) (disch := omega) only [go_sem, simprocAttr, d1I, take_map_len, hp1, hp3, hq1, hq3, iteI_min] | apply And.intro | omega | decide +kernel
             refine ⟨w + 1, ?_, eL [] _ _ (by refine ⟨?_, ?_⟩ <;> (repeat' first | exact List.forall_mem_nil _ | refine List.forall_mem_cons.2 ⟨(by first | rfl | (simp (disch := omega) only [go_sem, simprocAttr, inL, e1, e2]; first | done | omega | (congr 1; done))), ?_⟩); done), ?_⟩
             ·omega
             ·omega
          ·have : w = m.length := by omega
           subst this
           repeat' first | refine pw_seq ?_ | refine pw_skip ?_ | refine pw_ret ?_ | refine pw_exit ?_ | refine pw_block ?_ | refine pw_region (fun _ => false) hmix ?_ | refine rcM [(1001, 125), (2000, 904)] (ih) rfl ?_ | (refine wpG_split rfl rfl (fun hc => ?_) (fun hc => ?_) <;> try simp only [hcL, reduceCtorEq] at hc) | (refine pw_cond _ rfl rfl (fun hc => ?_) (fun hc => ?_) <;> (try simp only [hcL, reduceCtorEq] at hc) <;> try (exfalso; omega)) | simp (maxSteps := 1000000) (disch := omega) only [go_sem, simprocAttr, roomy, take_map_len, en, Nat.sub_zero] | exact nat_one v | apply And.intro | omega | decide +kernel
           refine ⟨v + 1, ?_, ?_, ?_⟩
           ·omega
           ·try dsimp only
            rw [hst2]
            exact entL_iff.2 (Ent.trans (ent_trunc 904 1 _ l.length rfl) (Ent.trans (ent_cap 1000 1 904 1 0 l.length (l.length + 1) l.length rfl rfl (by omega)) (entL_iff.1 (eL [(901, 904)] _ _ (by refine ⟨?_, ?_⟩ <;> (repeat' first | exact List.forall_mem_nil _ | refine List.forall_mem_cons.2 ⟨(by first | rfl | (simp (disch := omega) only [go_sem, simprocAttr, inL, hT, bPV, lI, List.set_cons_succ, List.set_cons_zero]; first | done | omega | (congr 1; done))), ?_⟩); done)))))
           ·omega
        ·repeat' first | refine pw_seq ?_ | refine pw_skip ?_ | refine pw_ret ?_ | refine pw_exit ?_ | refine pw_block ?_ | refine pw_region (fun _ => false) hmix ?_ | (refine rc (hin) rfl ?_ ?_; (· first | rfl | (simp (disch := omega) only [go_sem, simprocAttr, take_map_len]; done))) | (refine wpG_split rfl rfl (fun hc => ?_) (fun hc => ?_) <;> try simp only [hcL, reduceCtorEq] at hc) | (refine pw_cond _ rfl rfl (fun hc => ?_) (fun hc => ?_) <;> (try simp only [hcL, reduceCtorEq] at hc) <;> try (exfalso; omega)) | simp (maxSteps := 1000000) (disch := omega) only [go_sem, simprocAttr, take_map_len] | apply And.intro | omega | decide +kernel
         refine pw_loopI (κ := Nat) (fun (w : Nat) => w ≤ m.length) (fun (w : Nat) => [(0, .ptr 1000 0 0 0), (1, .int cost), (2, .int rest), (6, .int v), (7, .int (moreK m l v w)), (8, .int (lessK m l v w)), (51, .d (listsD m)), (52, .int m.length), (53, .int v), (65, .d (listsD m)), (66, .int m.length), (67, .int w)]) (fun (w : Nat) => [(1000, .cells [.d (listsD m), .ref 901 1 0 l.length l.length, .d (natsD b0), .int k0]), (1001, .gone), (901, .row 1 (l.map natD))]) (fun (w : Nat) => m.length - w) 0 ?_ ?_ ?_
         ·exact Nat.zero_le _
         ·exact eL [] _ _ (by refine ⟨?_, ?_⟩ <;> (repeat' first | exact List.forall_mem_nil _ | refine List.forall_mem_cons.2 ⟨(by first | rfl | (simp (disch := omega) only [go_sem, simprocAttr, inL, moreK, lessK, sm]; first | done | omega | (congr 1; done))), ?_⟩); done)
         ·intro w hw
          have b1 : 0 ≤ moreK m l v w ∧ moreK m l v w ≤ 1000000 * w := Go.Bd.more_bounds hs.small l hlt w hw
          have b2 : 0 ≤ lessK m l v w ∧ lessK m l v w ≤ 1000000 * w := Go.Bd.less_bounds hs.small l hlt w hw
          rcases Nat.lt_or_ge w m.length with hlw | hgw
          ·obtain ⟨p, hp1, hp2, hp3, hp4, hp5⟩ := hs.get hlt hlw
           obtain ⟨q, hq1, hq2, hq3, hq4, hq5⟩ := hs.get hlw hlt
           have hcw := containsN_spec l w
           by_cases d1 : w = v
           ·have e1 := moreK_in (m := m) (l := l) (v := v) (k := w) (fun h => h.1 d1)
            have e2 := lessK_in (m := m) (l := l) (v := v) (k := w) (fun h => h.1 d1)
            have d1I : (w : Int) = v := by omega
            repeat' first | refine pw_seq ?_ | refine pw_skip ?_ | refine pw_ret ?_ | refine pw_exit ?_ | refine pw_block ?_ | refine pw_region (fun _ => false) hmix ?_ | (refine wpG_split rfl rfl (fun hc => ?_) (fun hc => ?_) <;> try simp only [hcL, reduceCtorEq] at hc) | (refine pw_cond _ rfl rfl (fun hc => ?_) (fun hc => ?_) <;> (try simp only [hcL, reduceCtorEq] at hc) <;> try (exfalso; omega)) | simp (maxSteps := 1000000) (disch := omega) only [go_sem, simprocAttr, d1I] | apply And.intro | omega | decide +kernel
            refine ⟨w + 1, ?_, eL [] _ _ (by refine ⟨?_, ?_⟩ <;> (repeat' first | exact List.forall_mem_nil _ | refine List.forall_mem_cons.2 ⟨(by first | rfl | (simp (disch := omega) only [go_sem, simprocAttr, inL, e1, e2]; first | done | omega | (congr 1; done))), ?_⟩); done), ?_⟩
            ·omega
            ·omega
           ·have d1I : ¬ (w : Int) = v := by omega
            by_cases d2 : w ∈ l
            ·have e1 := moreK_in (m := m) (l := l) (v := v) (k := w) (fun h => h.2 d2)
             have e2 := lessK_in (m := m) (l := l) (v := v) (k := w) (fun h => h.2 d2)
             rw [decide_eq_true d2] at hcw
             repeat' first | refine pw_seq ?_ | refine pw_skip ?_ | refine pw_ret ?_ | refine pw_exit ?_ | refine pw_block ?_ | refine pw_region (fun _ => false) hmix ?_ | (refine rc (hcw) rfl ?_ ?_; (· first | rfl | (simp (disch := omega) only [go_sem, simprocAttr, d1I, take_map_len]; done))) | (refine wpG_split rfl rfl (fun hc => ?_) (fun hc => ?_) <;> try simp only [hcL, reduceCtorEq] at hc) | (refine pw_cond _ rfl rfl (fun hc => ?_) (fun hc => ?_) <;> (try simp only [hcL, reduceCtorEq] at hc) <;> try (exfalso; omega)) | simp (maxSteps := 1000000) (disch := omega) only [go_sem, simprocAttr, d1I, take_map_len] | apply And.intro | omega | decide +kernel
             refine ⟨w + 1, ?_, eL [] _ _ (by refine ⟨?_, ?_⟩ <;> (repeat' first | exact List.forall_mem_nil _ | refine List.forall_mem_cons.2 ⟨(by first | rfl | (simp (disch := omega) only [go_sem, simprocAttr, inL, e1, e2]; first | done | omega | (congr 1; done))), ?_⟩); done), ?_⟩
             ·omega
             ·omega
            ·have e1 := moreK_out (m := m) (l := l) (v := v) (k := w) ⟨d1, d2⟩
             have e2 := lessK_out (m := m) (l := l) (v := v) (k := w) ⟨d1, d2⟩
             rw [decide_eq_false d2] at hcw
             repeat' first | refine pw_seq ?_ | refine pw_skip ?_ | refine pw_ret ?_ | refine pw_exit ?_ | refine pw_block ?_ | refine pw_region (fun _ => false) hmix ?_ | (refine rc (hcw) rfl ?_ ?_; (· first | rfl | (simp (disch := omega) only [go_sem, simprocAttr, d1I, take_map_len, hp1, hp3, hq1, hq3, iteI_min]; done))) | (refine wpG_split rfl rfl (fun hc => ?_) (fun hc => ?_) <;> try simp only [hcL, reduceCtorEq] at hc) | (refine pw_cond _ rfl rfl (fun hc => ?_) (fun hc => ?_) <;> (try simp only [hcL, reduceCtorEq] at hc) <;> try (exfalso; omega)) | simp (maxSteps := 1000000) (disch := omega) only [go_sem, simprocAttr, d1I, take_map_len, hp1, hp3, hq1, hq3, iteI_min] | apply And.intro | omega | decide +kernel
             refine ⟨w + 1, ?_, eL [] _ _ (by refine ⟨?_, ?_⟩ <;> (repeat' first | exact List.forall_mem_nil _ | refine List.forall_mem_cons.2 ⟨(by first | rfl | (simp (disch := omega) only [go_sem, simprocAttr, inL, e1, e2]; first | done | omega | (congr 1; done))), ?_⟩); done), ?_⟩
             ·omega
             ·omega
          ·have : w = m.length := by omega
           subst this
           repeat' first | refine pw_seq ?_ | refine pw_skip ?_ | refine pw_ret ?_ | refine pw_exit ?_ | refine pw_block ?_ | refine pw_region (fun _ => false) hmix ?_ | refine rcM [(1001, 125), (2000, 904)] (ih) rfl ?_ | (refine wpG_split rfl rfl (fun hc => ?_) (fun hc => ?_) <;> try simp only [hcL, reduceCtorEq] at hc) | (refine pw_cond _ rfl rfl (fun hc => ?_) (fun hc => ?_) <;> (try simp only [hcL, reduceCtorEq] at hc) <;> try (exfalso; omega)) | simp (maxSteps := 1000000) (disch := omega) only [go_sem, simprocAttr, roomy, take_map_len, en, Nat.sub_zero] | exact nat_one v | apply And.intro | omega | decide +kernel
           refine ⟨v + 1, ?_, ?_, ?_⟩
           ·omega
           ·try dsimp only
            rw [hst2]
            exact entL_iff.2 (Ent.trans (ent_trunc 904 1 _ l.length rfl) (Ent.trans (ent_cap 1000 1 904 1 0 l.length (l.length + 1) l.length rfl rfl (by omega)) (entL_iff.1 (eL [(901, 904)] _ _ (by refine ⟨?_, ?_⟩ <;> (repeat' first | exact List.forall_mem_nil _ | refine List.forall_mem_cons.2 ⟨(by first | rfl | (simp (disch := omega) only [go_sem, simprocAttr, inL, hT, bPV, lI, List.set_cons_succ, List.set_cons_zero]; first | done | omega | (congr 1; done))), ?_⟩); done)))))
           ·omega
      ·have : v = m.length := by omega
       subst this
       rw [hend]
       simp only [bPV, lI]
       repeat' first | refine pw_seq ?_ | refine pw_skip ?_ | refine pw_ret ?_ | refine pw_exit ?_ | refine pw_block ?_ | refine pw_region (fun _ => false) hmix ?_ | (refine wpG_split rfl rfl (fun hc => ?_) (fun hc => ?_) <;> try simp only [hcL, reduceCtorEq] at hc) | (refine pw_cond _ rfl rfl (fun hc => ?_) (fun hc => ?_) <;> (try simp only [hcL, reduceCtorEq] at hc) <;> try (exfalso; omega)) | simp (maxSteps := 1000000) (disch := omega) only [go_sem, simprocAttr] | apply And.intro | omega | decide +kernel
       refine ⟨_, entL_iff.1 (eL [(2000, 901)] [] [(1000, .cells [.d (listsD m), .ref 2000 1 0 l.length l.length, .d (natsD be), .int ke]), (1001, .gone), (2000, .row 1 (l.map natD))] (by constructor <;> (repeat' first | exact List.forall_mem_nil _ | refine List.forall_mem_cons.2 ⟨rfl, ?_⟩); done)), ?_⟩
       exact ⟨⟨[], rfl, trivial⟩, List.forall_mem_cons.2 ⟨rfl, List.forall_mem_cons.2 ⟨rfl, List.forall_mem_cons.2 ⟨rfl, List.forall_mem_nil _⟩⟩⟩⟩
    ·have hk : ¬ k ≤ cost + rest := by simpa [shut] using hsh
     have hbl' := hbl _ rfl
     have hnl : ¬ (l.length : Int) = m.length := by omega
     have hne : (b.map natD).isEmpty = false := by
      cases b with
      | nil => simp at hbl'; omega
      | cons x b => rfl
     repeat' first | refine pw_seq ?_ | refine pw_skip ?_ | refine pw_ret ?_ | refine pw_exit ?_ | refine pw_block ?_ | refine pw_region (fun _ => false) hmix ?_ | (refine wpG_split rfl rfl (fun hc => ?_) (fun hc => ?_) <;> try simp only [hcL, reduceCtorEq] at hc) | (refine pw_cond _ rfl rfl (fun hc => ?_) (fun hc => ?_) <;> (try simp only [hcL, reduceCtorEq] at hc) <;> try (exfalso; omega)) | simp (maxSteps := 1000000) (disch := omega) only [go_sem, simprocAttr, hne, hk, hnl] | apply And.intro | omega | decide +kernel
     refine pw_loopI (κ := Nat) (fun (v : Nat) => v ≤ m.length) (fun (v : Nat) => [(0, .ptr 1000 0 0 0), (1, .int cost), (2, .int rest), (51, .d (listsD m)), (52, .int m.length), (53, .int v)]) (fun (v : Nat) => [(1000, .cells [.d (listsD m), .ref 901 1 0 l.length l.length, bPV (foldE (cellAt m) m.length f l cost rest st0 v), .int (lI (foldE (cellAt m) m.length f l cost rest st0 v))]), (1001, .gone), (901, .row 1 (l.map natD))]) (fun (v : Nat) => m.length - v) 0 ?_ ?_ ?_
     ·exact Nat.zero_le _
     ·try dsimp only
      rw [Go.Bd.foldE_zero, ← hst0]
      exact entL_iff.2 (Ent.trans (ent_move 1001 901 rfl (by decide) (by decide)) (entL_iff.1 (eL [] _ _ (by refine ⟨?_, ?_⟩ <;> (repeat' first | exact List.forall_mem_nil _ | refine List.forall_mem_cons.2 ⟨(by first | rfl | (simp (disch := omega) only [go_sem, simprocAttr, inL, bPV, lI]; first | done | omega | (congr 1; done))), ?_⟩); done) (h7 := pd_move (by simp) (by decide) (by repeat' first | exact pd_dead | exact pd_of _ rfl | refine pd_upd rfl ?_)))))
     ·intro v hv
      have hlv := hlen v hv
      rcases Nat.lt_or_ge v m.length with hlt | hge
      ·have hin := containsN_spec l v
       by_cases hm : v ∈ l
       ·rw [decide_eq_true hm] at hin
        have e1 := Go.Bd.foldE_in (cellAt m) m.length (f := f) (cost := cost) (rest := rest) (st := st0) hm
        rcases hst : foldE (cellAt m) m.length f l cost rest st0 v with _ | ⟨b0, k0⟩ <;> rw [hst] at e1 <;> simp only [bPV, lI]
        all_goals
         repeat' first | refine pw_seq ?_ | refine pw_skip ?_ | refine pw_ret ?_ | refine pw_exit ?_ | refine pw_block ?_ | refine pw_region (fun _ => false) hmix ?_ | (refine rc (hin) rfl ?_ ?_; (· first | rfl | (simp (disch := omega) only [go_sem, simprocAttr, take_map_len]; done))) | (refine wpG_split rfl rfl (fun hc => ?_) (fun hc => ?_) <;> try simp only [hcL, reduceCtorEq] at hc) | (refine pw_cond _ rfl rfl (fun hc => ?_) (fun hc => ?_) <;> (try simp only [hcL, reduceCtorEq] at hc) <;> try (exfalso; omega)) | simp (maxSteps := 1000000) (disch := omega) only [go_sem, simprocAttr, take_map_len] | apply And.intro | omega | decide +kernel
         refine ⟨v + 1, ?_, ?_, ?_⟩
         ·omega
         ·try dsimp only
          rw [e1]
          exact eL [] _ _ (by refine ⟨?_, ?_⟩ <;> (repeat' first | exact List.forall_mem_nil _ | refine List.forall_mem_cons.2 ⟨(by first | rfl | (simp (disch := omega) only [go_sem, simprocAttr, inL, bPV, lI]; first | done | omega | (congr 1; done))), ?_⟩); done)
         ·omega
       ·rw [decide_eq_false hm] at hin
        have e1 := Go.Bd.foldE_out (cellAt m) m.length (f := f) (cost := cost) (rest := rest) (st := st0) hm
        have ih := hIH v hlt hm
        have en : (((l.length + 1 : Nat) : Int) - 1).toNat = l.length := by omega
        have hT : (l.map natD ++ [natD v]).take l.length = l.map natD := List.take_left' (List.length_map ..)
        rcases hst : foldE (cellAt m) m.length f l cost rest st0 v with _ | ⟨b0, k0⟩
        all_goals
         rw [hst] at e1 ih
         have e3 : foldE (cellAt m) m.length f l cost rest st0 (v + 1) = extF (cellAt m) m.length f (l ++ [v]) (cost + moreK m l v m.length) (rest - lessK m l v m.length) _ := e1
         rw [ExtOk, ← e3] at ih
         obtain ⟨⟨b2, k2⟩, hst2⟩ : ∃ s, foldE (cellAt m) m.length f l cost rest st0 (v + 1) = some s := by
          rw [e3]; exact Go.Bd.ext_some f (l ++ [v]) (hp.snoc hlt hm) _ _ _
         rw [hst2] at ih e3
         simp only [bPV, lI, List.length_append, List.length_cons, List.length_nil, List.map_append, List.map_cons, List.map_nil, Nat.zero_add] at ih ⊢
        ·repeat' first | refine pw_seq ?_ | refine pw_skip ?_ | refine pw_ret ?_ | refine pw_exit ?_ | refine pw_block ?_ | refine pw_region (fun _ => false) hmix ?_ | (refine rc (hin) rfl ?_ ?_; (· first | rfl | (simp (disch := omega) only [go_sem, simprocAttr, take_map_len]; done))) | (refine wpG_split rfl rfl (fun hc => ?_) (fun hc => ?_) <;> try simp only [hcL, reduceCtorEq] at hc) | (refine pw_cond _ rfl rfl (fun hc => ?_) (fun hc => ?_) <;> (try simp only [hcL, reduceCtorEq] at hc) <;> try (exfalso; omega)) | simp (maxSteps := 1000000) (disch := omega) only [go_sem, simprocAttr, take_map_len] | apply And.intro | omega | decide +kernel
         refine pw_loopI (κ := Nat) (fun (w : Nat) => w ≤ m.length) (fun (w : Nat) => [(0, .ptr 1000 0 0 0), (1, .int cost), (2, .int rest), (6, .int v), (7, .int (moreK m l v w)), (8, .int (lessK m l v w)), (51, .d (listsD m)), (52, .int m.length), (53, .int v), (65, .d (listsD m)), (66, .int m.length), (67, .int w)]) (fun (w : Nat) => [(1000, .cells [.d (listsD m), .ref 901 1 0 l.length l.length, .nilS, .int 0]), (1001, .gone), (901, .row 1 (l.map natD))]) (fun (w : Nat) => m.length - w) 0 ?_ ?_ ?_
         ·exact Nat.zero_le _
         ·exact eL [] _ _ (by refine ⟨?_, ?_⟩ <;> (repeat' first | exact List.forall_mem_nil _ | refine List.forall_mem_cons.2 ⟨(by first | rfl | (simp (disch := omega) only [go_sem, simprocAttr, inL, moreK, lessK, sm]; first | done | omega | (congr 1; done))), ?_⟩); done)
         ·intro w hw
          have b1 : 0 ≤ moreK m l v w ∧ moreK m l v w ≤ 1000000 * w := Go.Bd.more_bounds hs.small l hlt w hw
          have b2 : 0 ≤ lessK m l v w ∧ lessK m l v w ≤ 1000000 * w := Go.Bd.less_bounds hs.small l hlt w hw
          rcases Nat.lt_or_ge w m.length with hlw | hgw
          ·obtain ⟨p, hp1, hp2, hp3, hp4, hp5⟩ := hs.get hlt hlw
           obtain ⟨q, hq1, hq2, hq3, hq4, hq5⟩ := hs.get hlw hlt
           have hcw := containsN_spec l w
           by_cases d1 : w = v
           ·have e1 := moreK_in (m := m) (l := l) (v := v) (k := w) (fun h => h.1 d1)
            have e2 := lessK_in (m := m) (l := l) (v := v) (k := w) (fun h => h.1 d1)
            have d1I : (w : Int) = v := by omega
            repeat' first | refine pw_seq ?_ | refine pw_skip ?_ | refine pw_ret ?_ | refine pw_exit ?_ | refine pw_block ?_ | refine pw_region (fun _ => false) hmix ?_ | (refine wpG_split rfl rfl (fun hc => ?_) (fun hc => ?_) <;> try simp only [hcL, reduceCtorEq] at hc) | (refine pw_cond _ rfl rfl (fun hc => ?_) (fun hc => ?_) <;> (try simp only [hcL, reduceCtorEq] at hc) <;> try (exfalso; omega)) | simp (maxSteps := 1000000) (disch := omega) only [go_sem, simprocAttr, d1I] | apply And.intro | omega | decide +kernel
            refine ⟨w + 1, ?_, eL [] _ _ (by refine ⟨?_, ?_⟩ <;> (repeat' first | exact List.forall_mem_nil _ | refine List.forall_mem_cons.2 ⟨(by first | rfl | (simp (disch := omega) only [go_sem, simprocAttr, inL, e1, e2]; first | done | omega | (congr 1; done))), ?_⟩); done), ?_⟩
            ·omega
            ·omega
           ·have d1I : ¬ (w : Int) = v := by omega
            by_cases d2 : w ∈ l
            ·have e1 := moreK_in (m := m) (l := l) (v := v) (k := w) (fun h => h.2 d2)
             have e2 := lessK_in (m := m) (l := l) (v := v) (k := w) (fun h => h.2 d2)
             rw [decide_eq_true d2] at hcw
             repeat' first | refine pw_seq ?_ | refine pw_skip ?_ | refine pw_ret ?_ | refine pw_exit ?_ | refine pw_block ?_ | refine pw_region (fun _ => false) hmix ?_ | (refine rc (hcw) rfl ?_ ?_; (· first | rfl | (simp (disch := omega) only [go_sem, simprocAttr, d1I, take_map_len]; done))) | (refine wpG_split rfl rfl (fun hc => ?_) (fun hc => ?_) <;> try simp only [hcL, reduceCtorEq] at hc) | (refine pw_cond _ rfl rfl (fun hc => ?_) (fun hc => ?_) <;> (try simp only [hcL, reduceCtorEq] at hc) <;> try (exfalso; omega)) | simp (maxSteps := 1000000) (disch := omega) only [go_sem, simprocAttr, d1I, take_map_len] | apply And.intro | omega | decide +kernel
             refine ⟨w + 1, ?_, eL [] _ _ (by refine ⟨?_, ?_⟩ <;> (repeat' first | exact List.forall_mem_nil _ | refine List.forall_mem_cons.2 ⟨(by first | rfl | (simp (disch := omega) only [go_sem, simprocAttr, inL, e1, e2]; first | done | omega | (congr 1; done))), ?_⟩); done), ?_⟩
             ·omega
             ·omega
            ·have e1 := moreK_out (m := m) (l := l) (v := v) (k := w) ⟨d1, d2⟩
             have e2 := lessK_out (m := m) (l := l) (v := v) (k := w) ⟨d1, d2⟩
             rw [decide_eq_false d2] at hcw
             repeat' first | refine pw_seq ?_ | refine pw_skip ?_ | refine pw_ret ?_ | refine pw_exit ?_ | refine pw_block ?_ | refine pw_region (fun _ => false) hmix ?_ | (refine rc (hcw) rfl ?_ ?_; (· first | rfl | (simp (disch := omega) only [go_sem, simprocAttr, d1I, take_map_len, hp1, hp3, hq1, hq3, iteI_min]; done))) | (refine wpG_split rfl rfl (fun hc => ?_) (fun hc => ?_) <;> try simp only [hcL, reduceCtorEq] at hc) | (refine pw_cond _ rfl rfl (fun hc => ?_) (fun hc => ?_) <;> (try simp only [hcL, reduceCtorEq] at hc) <;> try (exfalso; omega)) | simp (maxSteps := 1000000) (disch := omega) only [go_sem, simprocAttr, d1I, take_map_len, hp1, hp3, hq1, hq3, iteI_min] | apply And.intro | omega | decide +kernel
             refine ⟨w + 1, ?_, eL [] _ _ (by refine ⟨?_, ?_⟩ <;> (repeat' first | exact List.forall_mem_nil _ | refine List.forall_mem_cons.2 ⟨(by first | rfl | (simp (disch := omega) only [go_sem, simprocAttr, inL, e1, e2]; first | done | omega | (congr 1; done))), ?_⟩); done), ?_⟩
             ·omega
             ·omega
          ·have : w = m.length := by omega
           subst this
           repeat' first | refine pw_seq ?_ | refine pw_skip ?_ | refine pw_ret ?_ | refine pw_exit ?_ | refine pw_block ?_ | refine pw_region (fun _ => false) hmix ?_ | refine rcM [(1001, 125), (2000, 904)] (ih) rfl ?_ | (refine wpG_split rfl rfl (fun hc => ?_) (fun hc => ?_) <;> try simp only [hcL, reduceCtorEq] at hc) | (refine pw_cond _ rfl rfl (fun hc => ?_) (fun hc => ?_) <;> (try simp only [hcL, reduceCtorEq] at hc) <;> try (exfalso; omega)) | simp (maxSteps := 1000000) (disch := omega) only [go_sem, simprocAttr, roomy, take_map_len, en, Nat.sub_zero] | exact nat_one v | apply And.intro | omega | decide +kernel
           refine ⟨v + 1, ?_, ?_, ?_⟩
           ·omega
           ·try dsimp only
            rw [hst2]
            exact entL_iff.2 (Ent.trans (ent_trunc 904 1 _ l.length rfl) (Ent.trans (ent_cap 1000 1 904 1 0 l.length (l.length + 1) l.length rfl rfl (by omega)) (entL_iff.1 (eL [(901, 904)] _ _ (by refine ⟨?_, ?_⟩ <;> (repeat' first | exact List.forall_mem_nil _ | refine List.forall_mem_cons.2 ⟨(by first | rfl | (simp (disch := omega) only [go_sem, simprocAttr, inL, hT, bPV, lI, List.set_cons_succ, List.set_cons_zero]; first | done | omega | (congr 1; done))), ?_⟩); done)))))
           ·omega
        ·repeat' first | refine pw_seq ?_ | refine pw_skip ?_ | refine pw_ret ?_ | refine pw_exit ?_ | refine pw_block ?_ | refine pw_region (fun _ => false) hmix ?_ | (refine rc (hin) rfl ?_ ?_; (· first | rfl | (simp (disch := omega) only [go_sem, simprocAttr, take_map_len]; done))) | (refine wpG_split rfl rfl (fun hc => ?_) (fun hc => ?_) <;> try simp only [hcL, reduceCtorEq] at hc) | (refine pw_cond _ rfl rfl (fun hc => ?_) (fun hc => ?_) <;> (try simp only [hcL, reduceCtorEq] at hc) <;> try (exfalso; omega)) | simp (maxSteps := 1000000) (disch := omega) only [go_sem, simprocAttr, take_map_len] | apply And.intro | omega | decide +kernel
         refine pw_loopI (κ := Nat) (fun (w : Nat) => w ≤ m.length) (fun (w : Nat) => [(0, .ptr 1000 0 0 0), (1, .int cost), (2, .int rest), (6, .int v), (7, .int (moreK m l v w)), (8, .int (lessK m l v w)), (51, .d (listsD m)), (52, .int m.length), (53, .int v), (65, .d (listsD m)), (66, .int m.length), (67, .int w)]) (fun (w : Nat) => [(1000, .cells [.d (listsD m), .ref 901 1 0 l.length l.length, .d (natsD b0), .int k0]), (1001, .gone), (901, .row 1 (l.map natD))]) (fun (w : Nat) => m.length - w) 0 ?_ ?_ ?_
         ·exact Nat.zero_le _
         ·exact eL [] _ _ (by refine ⟨?_, ?_⟩ <;> (repeat' first | exact List.forall_mem_nil _ | refine List.forall_mem_cons.2 ⟨(by first | rfl | (simp (disch := omega) only [go_sem, simprocAttr, inL, moreK, lessK, sm]; first | done | omega | (congr 1; done))), ?_⟩); done)
         ·intro w hw
          have b1 : 0 ≤ moreK m l v w ∧ moreK m l v w ≤ 1000000 * w := Go.Bd.more_bounds hs.small l hlt w hw
          have b2 : 0 ≤ lessK m l v w ∧ lessK m l v w ≤ 1000000 * w := Go.Bd.less_bounds hs.small l hlt w hw
          rcases Nat.lt_or_ge w m.length with hlw | hgw
          ·obtain ⟨p, hp1, hp2, hp3, hp4, hp5⟩ := hs.get hlt hlw
           obtain ⟨q, hq1, hq2, hq3, hq4, hq5⟩ := hs.get hlw hlt
           have hcw := containsN_spec l w
           by_cases d1 : w = v
           ·have e1 := moreK_in (m := m) (l := l) (v := v) (k := w) (fun h => h.1 d1)
            have e2 := lessK_in (m := m) (l := l) (v := v) (k := w) (fun h => h.1 d1)
            have d1I : (w : Int) = v := by omega
            repeat' first | refine pw_seq ?_ | refine pw_skip ?_ | refine pw_ret ?_ | refine pw_exit ?_ | refine pw_block ?_ | refine pw_region (fun _ => false) hmix ?_ | (refine wpG_split rfl rfl (fun hc => ?_) (fun hc => ?_) <;> try simp only [hcL, reduceCtorEq] at hc) | (refine pw_cond _ rfl rfl (fun hc => ?_) (fun hc => ?_) <;> (try simp only [hcL, reduceCtorEq] at hc) <;> try (exfalso; omega)) | simp (maxSteps := 1000000) (disch := omega) only [go_sem, simprocAttr, d1I] | apply And.intro | omega | decide +kernel
            refine ⟨w + 1, ?_, eL [] _ _ (by refine ⟨?_, ?_⟩ <;> (repeat' first | exact List.forall_mem_nil _ | refine List.forall_mem_cons.2 ⟨(by first | rfl | (simp (disch := omega) only [go_sem, simprocAttr, inL, e1, e2]; first | done | omega | (congr 1; done))), ?_⟩); done), ?_⟩
            ·omega
            ·omega
           ·have d1I : ¬ (w : Int) = v := by omega
            by_cases d2 : w ∈ l
            ·have e1 := moreK_in (m := m) (l := l) (v := v) (k := w) (fun h => h.2 d2)
             have e2 := lessK_in (m := m) (l := l) (v := v) (k := w) (fun h => h.2 d2)
             rw [decide_eq_true d2] at hcw
             repeat' first | refine pw_seq ?_ | refine pw_skip ?_ | refine pw_ret ?_ | refine pw_exit ?_ | refine pw_block ?_ | refine pw_region (fun _ => false) hmix ?_ | (refine rc (hcw) rfl ?_ ?_; (· first | rfl | (simp (disch := omega) only [go_sem, simprocAttr, d1I, take_map_len]; done))) | (refine wpG_split rfl rfl (fun hc => ?_) (fun hc => ?_) <;> try simp only [hcL, reduceCtorEq] at hc) | (refine pw_cond _ rfl rfl (fun hc => ?_) (fun hc => ?_) <;> (try simp only [hcL, reduceCtorEq] at hc) <;> try (exfalso; omega)) | simp (maxSteps := 1000000) (disch := omega) only [go_sem, simprocAttr, d1I, take_map_len] | apply And.intro | omega | decide +kernel
             refine ⟨w + 1, ?_, eL [] _ _ (by refine ⟨?_, ?_⟩ <;> (repeat' first | exact List.forall_mem_nil _ | refine List.forall_mem_cons.2 ⟨(by first | rfl | (simp (disch := omega) only [go_sem, simprocAttr, inL, e1, e2]; first | done | omega | (congr 1; done))), ?_⟩); done), ?_⟩
             ·omega
             ·omega
            ·have e1 := moreK_out (m := m) (l := l) (v := v) (k := w) ⟨d1, d2⟩
             have e2 := lessK_out (m := m) (l := l) (v := v) (k := w) ⟨d1, d2⟩
             rw [decide_eq_false d2] at hcw
             repeat' first | refine pw_seq ?_ | refine pw_skip ?_ | refine pw_ret ?_ | refine pw_exit ?_ | refine pw_block ?_ | refine pw_region (fun _ => false) hmix ?_ | (refine rc (hcw) rfl ?_ ?_; (· first | rfl | (simp (disch := omega) only [go_sem, simprocAttr, d1I, take_map_len, hp1, hp3, hq1, hq3, iteI_min]; done))) | (refine wpG_split rfl rfl (fun hc => ?_) (fun hc => ?_) <;> try simp only [hcL, reduceCtorEq] at hc) | (refine pw_cond _ rfl rfl (fun hc => ?_) (fun hc => ?_) <;> (try simp only [hcL, reduceCtorEq] at hc) <;> try (exfalso; omega)) | simp (maxSteps := 1000000) (disch := omega) only [go_sem, simprocAttr, d1I, take_map_len, hp1, hp3, hq1, hq3, iteI_min] | apply And.intro | omega | decide +kernel
             refine ⟨w + 1, ?_, eL [] _ _ (by refine ⟨?_, ?_⟩ <;> (repeat' first | exact List.forall_mem_nil _ | refine List.forall_mem_cons.2 ⟨(by first | rfl | (simp (disch := omega) only [go_sem, simprocAttr, inL, e1, e2]; first | done | omega | (congr 1; done))), ?_⟩); done), ?_⟩
             ·omega
             ·omega
          ·have : w = m.length := by omega
           subst this
           repeat' first | refine pw_seq ?_ | refine pw_skip ?_ | refine pw_ret ?_ | refine pw_exit ?_ | refine pw_block ?_ | refine pw_region (fun _ => false) hmix ?_ | refine rcM [(1001, 125), (2000, 904)] (ih) rfl ?_ | (refine wpG_split rfl rfl (fun hc => ?_) (fun hc => ?_) <;> try simp only [hcL, reduceCtorEq] at hc) | (refine pw_cond _ rfl rfl (fun hc => ?_) (fun hc => ?_) <;> (try simp only [hcL, reduceCtorEq] at hc) <;> try (exfalso; omega)) | simp (maxSteps := 1000000) (disch := omega) only [go_sem, simprocAttr, roomy, take_map_len, en, Nat.sub_zero] | exact nat_one v | apply And.intro | omega | decide +kernel
           refine ⟨v + 1, ?_, ?_, ?_⟩
           ·omega
           ·try dsimp only
            rw [hst2]
            exact entL_iff.2 (Ent.trans (ent_trunc 904 1 _ l.length rfl) (Ent.trans (ent_cap 1000 1 904 1 0 l.length (l.length + 1) l.length rfl rfl (by omega)) (entL_iff.1 (eL [(901, 904)] _ _ (by refine ⟨?_, ?_⟩ <;> (repeat' first | exact List.forall_mem_nil _ | refine List.forall_mem_cons.2 ⟨(by first | rfl | (simp (disch := omega) only [go_sem, simprocAttr, inL, hT, bPV, lI, List.set_cons_succ, List.set_cons_zero]; first | done | omega | (congr 1; done))), ?_⟩); done)))))
           ·omega
      ·have : v = m.length := by omega
       subst this
       rw [hend]
       simp only [bPV, lI]
       repeat' first | refine pw_seq ?_ | refine pw_skip ?_ | refine pw_ret ?_ | refine pw_exit ?_ | refine pw_block ?_ | refine pw_region (fun _ => false) hmix ?_ | (refine wpG_split rfl rfl (fun hc => ?_) (fun hc => ?_) <;> try simp only [hcL, reduceCtorEq] at hc) | (refine pw_cond _ rfl rfl (fun hc => ?_) (fun hc => ?_) <;> (try simp only [hcL, reduceCtorEq] at hc) <;> try (exfalso; omega)) | simp (maxSteps := 1000000) (disch := omega) only [go_sem, simprocAttr] | apply And.intro | omega | decide +kernel
       refine ⟨_, entL_iff.1 (eL [(2000, 901)] [] [(1000, .cells [.d (listsD m), .ref 2000 1 0 l.length l.length, .d (natsD be), .int ke]), (1001, .gone), (2000, .row 1 (l.map natD))] (by constructor <;> (repeat' first | exact List.forall_mem_nil _ | refine List.forall_mem_cons.2 ⟨rfl, ?_⟩); done)), ?_⟩
       exact ⟨⟨[], rfl, trivial⟩, List.forall_mem_cons.2 ⟨rfl, List.forall_mem_cons.2 ⟨rfl, List.forall_mem_cons.2 ⟨rfl, List.forall_mem_nil _⟩⟩⟩⟩
  ·exact ext_shut m (f + 1) l st cost rest hi (by omega) hsh (by rw [Go.Bd.ext_foldE, if_pos hsh])
end Go.Proofs.YtldbcbclhpcofaaGreat
namespace Go.Proofs.YtldbcbclhpcofaaGreat
open Go Go.PS Go.Proofs
open Go.Bd (sm sumC Small low Part bestF foldB better extF foldE more less shut fixC)
set_option maxRecDepth 100000
attribute [local irreducible] wpRun wpG CallsTo CallsM

theorem ext_all (m : List (List Int)) : extF (cellAt m) m.length m.length [] 0 (low (cellAt m) m.length []) none = some (bestAll m) := by
 have h := Go.Bd.ext_best (cellAt m) m.length [] (part_nil _) none
 rw [bestAll_eq] at h
 exact h
set_option maxHeartbeats 1000000 in
theorem Least_spec (m : List (List Int)) : CallsTo Tryz.prog 26 [listsD m] (if okM m then .tup [natsD (bestAll m).1, .int (bestAll m).2, .int 0] else .tup [.sl [], .int 0, .int 1]) := by
 have hv := bValid_spec m
 rcases h : okM m with _ | _ <;> rw [h] at hv
 ·rw [if_neg (by decide)]
  refine callsTo_of Tryz.func26 rfl (by decide +kernel) (Nat.le_of_ble_eq_true rfl) ?_
  intro hat B X w0
  repeat' first | refine pw_seq ?_ | refine pw_skip ?_ | refine pw_ret ?_ | refine pw_exit ?_ | refine pw_block ?_ | refine pw_region (fun _ => false) hmix ?_ | (refine rc (hv) rfl ?_ ?_; (· first | rfl | (simp (disch := omega) only [go_sem, simprocAttr]; done))) | (refine wpG_split rfl rfl (fun hc => ?_) (fun hc => ?_) <;> try simp only [hcL, reduceCtorEq] at hc) | (refine pw_cond _ rfl rfl (fun hc => ?_) (fun hc => ?_) <;> (try simp only [hcL, reduceCtorEq] at hc) <;> try (exfalso; omega)) | simp (maxSteps := 1000000) (disch := omega) only [go_sem, simprocAttr] | apply And.intro | omega | decide +kernel
  exact ⟨_, rfl, sl_some rfl, int_some rfl, int_some rfl, trivial⟩
 ·rw [if_pos rfl]
  obtain ⟨hs, h8⟩ := ok_sq h
  have hlo := Lower_spec m h
  have hb : 0 ≤ low (cellAt m) m.length [] ∧ low (cellAt m) m.length [] ≤ 64000000 := by
   rw [lw_low]
   have := lw_bounds hs h8 m.length (Nat.le_refl _)
   omega
  have he := ext_main m hs h8 m.length [] (part_nil _) none 0 (low (cellAt m) m.length []) ⟨fun s hs => (by cases hs), .inr rfl, by omega, by simp, by simp only [List.length_nil]; omega, by omega⟩
  rw [ExtOk, ext_all] at he
  simp only [bPV, lI, List.length_nil, List.map_nil] at he
  refine callsTo_of Tryz.func26 rfl (by decide +kernel) (Nat.le_of_ble_eq_true rfl) ?_
  intro hat B X w0
  repeat' first | refine pw_seq ?_ | refine pw_skip ?_ | refine pw_ret ?_ | refine pw_exit ?_ | refine pw_block ?_ | refine pw_regionB 4 rfl (fun _ => false) hmix ?_ | (refine rc (hv) rfl ?_ ?_; (· first | rfl | (simp (disch := omega) only [go_sem, simprocAttr]; done))) | (refine wpG_split rfl rfl (fun hc => ?_) (fun hc => ?_) <;> try simp only [hcL, reduceCtorEq] at hc) | (refine pw_cond _ rfl rfl (fun hc => ?_) (fun hc => ?_) <;> (try simp only [hcL, reduceCtorEq] at hc) <;> try (exfalso; omega)) | simp (maxSteps := 1000000) (disch := omega) only [go_sem, simprocAttr] | apply And.intro | omega | decide +kernel
  refine pw_ent _ (ent_nilC 11 1 901 1 rfl rfl rfl) ?_
  repeat' first | refine pw_seq ?_ | refine pw_skip ?_ | refine pw_ret ?_ | refine pw_exit ?_ | refine pw_block ?_ | refine pw_region (fun _ => false) hmix ?_ | (refine rc (hlo) rfl ?_ ?_; (· first | rfl | (simp (disch := omega) only [go_sem, simprocAttr]; done))) | refine rcM [(1000, 11), (1001, 901), (2000, 902)] (he) rfl ?_ | (refine wpG_split rfl rfl (fun hc => ?_) (fun hc => ?_) <;> try simp only [hcL, reduceCtorEq] at hc) | (refine pw_cond _ rfl rfl (fun hc => ?_) (fun hc => ?_) <;> (try simp only [hcL, reduceCtorEq] at hc) <;> try (exfalso; omega)) | simp (maxSteps := 1000000) (disch := omega) only [go_sem, simprocAttr] | apply And.intro | omega | decide +kernel
  exact ⟨_, rfl, sl_some rfl, int_some rfl, int_some rfl, trivial⟩
end Go.Proofs.YtldbcbclhpcofaaGreat
namespace Go.Proofs.YtldbcbclhpcofaaGreat
open Go Go.PS Go.Proofs
open Go.Bd (ix invF invN comN refN refB)
set_option maxRecDepth 100000
attribute [local irreducible] wpRun wpG CallsTo CallsM

theorem ix_nat {l : List Int} {v : Int} (h : v ∈ l) : ix l v = ((l.idxOf v : Nat) : Int) := by rw [ix, if_pos h]
end Go.Proofs.YtldbcbclhpcofaaGreat
namespace Go.Proofs.YtldbcbclhpcofaaGreat
open Go Go.PS Go.Proofs
open Go.Bd (ix invF invN comN refN refB)
set_option maxRecDepth 100000
attribute [local irreducible] wpRun wpG CallsTo CallsM

theorem lstN_at {l : List (List Int)} {k : Nat} {y : List Int} (h : l[k]? = some y) : lstN l k = y := by rw [lstN, h]; rfl
theorem lstN_out {l : List (List Int)} {k : Nat} (h : l.length ≤ k) : lstN l k = [] := by rw [lstN, List.getElem?_eq_none h]; rfl
def okW (a : Lv) (w : Int) : Bool := validF a && decide (0 ≤ w ∧ w ≤ 1000)
def invS (a : Lv) (old : List (List Int)) (k : Nat) : Int := sumZ (fun i => (invF (lstN old i) (lstN a.2.1 i) : Int)) k
def costF (a : Lv) (old : List (List Int)) (w : Int) : Int := if okW a w then TotalF a + w * invS a old a.2.1.length else -1
theorem layer_le {a : Lv} (h : validF a = true) (k : Nat) : (lstN a.2.1 k).length ≤ 512 := by
 obtain ⟨t1, t2⟩ := lv_le h
 rcases Nat.lt_or_ge k a.2.1.length with hlt | hge
 ·obtain ⟨y, hy⟩ := get_some hlt
  rw [lstN_at hy]
  have := tot_mem (List.mem_of_getElem? hy)
  omega
 ·rw [lstN_out hge]; simp
end Go.Proofs.YtldbcbclhpcofaaGreat
namespace Go.Proofs.YtldbcbclhpcofaaGreat
open Go Go.PS Go.Proofs
open Go.Bd (ix invF invN comN refN refB)
set_option maxRecDepth 100000
attribute [local irreducible] wpRun wpG CallsTo CallsM

def rowG (g : Nat → Int) (n : Nat) : List Int := (List.range n).map g
def mixR (f g : Nat → Int) (n b : Nat) : List Int := rowG (fun v => if v < b then g v else f v) n
theorem rowG_len (g : Nat → Int) (n : Nat) : (rowG g n).length = n := by simp [rowG]
theorem rowG_get {g : Nat → Int} {n v : Nat} (h : v < n) : (rowG g n)[v]? = some (g v) := by simp [rowG, h]
theorem rowG_congr {f g : Nat → Int} {n : Nat} (h : ∀ v, v < n → f v = g v) : rowG f n = rowG g n := List.map_congr_left fun v hv => h v (List.mem_range.1 hv)
theorem mixR_len (f g : Nat → Int) (n b : Nat) : (mixR f g n b).length = n := rowG_len _ _
theorem mixR_zero (f g : Nat → Int) (n : Nat) : mixR f g n 0 = rowG f n := rowG_congr fun v _ => if_neg (by omega)
theorem mixR_full (f g : Nat → Int) (n : Nat) : mixR f g n n = rowG g n := rowG_congr fun v hv => if_pos hv
theorem mixR_get {f g : Nat → Int} {n b : Nat} (h : b < n) : (mixR f g n b)[b]? = some (f b) := by rw [mixR, rowG_get h, if_neg (by omega)]
theorem mixR_step {f g : Nat → Int} {n b : Nat} (h : b < n) : (mixR f g n b).set b (g b) = mixR f g n (b + 1) := by
 refine List.ext_getElem? fun v => ?_
 rw [List.getElem?_set, mixR_len]
 by_cases c : b = v
 ·subst c
  rw [if_pos rfl, if_pos h, mixR, rowG_get h, if_pos (by omega)]
 ·rw [if_neg c]
  by_cases c2 : v < n
  ·rw [mixR, mixR, rowG_get c2, rowG_get c2]
   by_cases c3 : v < b
   ·rw [if_pos c3, if_pos (by omega)]
   ·rw [if_neg c3, if_neg (by omega)]
  ·rw [List.getElem?_eq_none (by rw [mixR_len]; omega), List.getElem?_eq_none (by rw [mixR_len]; omega)]
theorem rowG_zero (n : Nat) : List.replicate n (D.int 0) = (rowG (fun _ => 0) n).map D.int := by
 rw [rowG, List.map_map]
 refine List.ext_getElem? fun v => ?_
 by_cases c : v < n <;> simp [List.getElem?_replicate, c]
def wCell (old y : List Int) (w : Int) (u v : Nat) : Int := if 0 ≤ ix old (at0 y v) ∧ ix old (at0 y v) < ix old (at0 y u) then w else 0
def fixT (i : Nat) (t : Nat) : Int := if t = 0 then (i : Int) - 1 else (i : Int) + 1
def accC (a : Lv) (old y : List Int) (w : Int) (i : Nat) : Nat → Nat → Nat → Int
 | 0, u, v => wCell old y w u v
 | t + 1, u, v => accC a old y w i t u v + cellAt (MatrixF a i (fixT i t)) u v
def sqM (g : Nat → Nat → Int) (n : Nat) : List (List Int) := (List.range n).map fun u => rowG (g u) n
def stM (a : Lv) (old y : List Int) (w : Int) (i : Nat) : List (List Int) := sqM (accC a old y w i 2) y.length
theorem cellAt_le {m : List (List Int)} (h : Sq m) (u v : Nat) : 0 ≤ cellAt m u v ∧ cellAt m u v ≤ 1000000 := by
 by_cases hu : u < m.length
 ·by_cases hv : v < m.length
  ·obtain ⟨_, _, _, _, h1, h2⟩ := h.get hu hv
   exact ⟨h1, h2⟩
  ·obtain ⟨p, hp⟩ := get_some hu
   have := h.row p (List.mem_of_getElem? hp)
   rw [cellAt, lstN_at hp, at0, Int.toNat_natCast, List.getElem?_eq_none (by omega)]; decide
 ·rw [cellAt, lstN_out (by omega)]; simp [at0]
theorem accC_le (a : Lv) (old y : List Int) {w : Int} (hw : 0 ≤ w ∧ w ≤ 1000) (i : Nat) : ∀ t u v, 0 ≤ accC a old y w i t u v ∧ accC a old y w i t u v ≤ 1000 + 1000000 * t
 | 0, u, v => by
  rw [accC, wCell]; split <;> omega
 | t + 1, u, v => by
  have ih := accC_le a old y hw i t u v
  have := cellAt_le (MatrixF_sq a i (fixT i t)) u v
  rw [accC]; omega
end Go.Proofs.YtldbcbclhpcofaaGreat
namespace Go.Proofs.YtldbcbclhpcofaaGreat
open Go Go.PS Go.Proofs
open Go.Bd (ix invF invN comN refN refB)
set_option maxRecDepth 100000
attribute [local irreducible] wpRun wpG CallsTo CallsM

end Go.Proofs.YtldbcbclhpcofaaGreat
namespace Go.Proofs.YtldbcbclhpcofaaGreat
open Go Go.PS Go.Proofs
open Go.Bd (ix invF invN comN refN refB)
set_option maxRecDepth 100000
attribute [local irreducible] wpRun wpG CallsTo CallsM

end Go.Proofs.YtldbcbclhpcofaaGreat
namespace Go.Proofs.YtldbcbclhpcofaaGreat
open Go Go.PS Go.Proofs
open Go.Bd (ix invF invN comN sumC sumC_add sumC_mul invC Part bestF)

theorem cellAt_sq {g : Nat → Nat → Int} {n u v : Nat} (hu : u < n) (hv : v < n) : cellAt (sqM g n) u v = g u v := by
 rw [cellAt, sqM, lstN, List.getElem?_map, List.getElem?_range hu]
 simp only [Option.map_some, Option.getD_some]
 rw [at0, Int.toNat_natCast, rowG_get hv]; rfl
theorem stM_len (a : Lv) (old y : List Int) (w : Int) (i : Nat) : (stM a old y w i).length = y.length := by simp [stM, sqM]
def yG (y : List Int) (k : Nat) : Int := (y[k]?).getD 0
theorem wCell_inv (old y : List Int) (w : Int) (u v : Nat) : wCell old y w u v = w * invC old (yG y) u v := by
 have e : ∀ k : Nat, at0 y k = yG y k := fun k => by rw [at0, Int.toNat_natCast]; rfl
 rw [wCell, invC, e, e]
 by_cases h1 : yG y u ∈ old <;> by_cases h2 : yG y v ∈ old
 ·rw [ix_nat h1, ix_nat h2]
  by_cases h3 : old.idxOf (yG y v) < old.idxOf (yG y u)
  ·rw [if_pos ⟨by omega, by omega⟩, if_pos ⟨h1, h2, h3⟩, Int.mul_one]
  ·rw [if_neg (fun h => h3 (by omega)), if_neg (fun h => h3 h.2.2), Int.mul_zero]
 ·rw [if_neg (fun h => by
   have := h.1
   rw [ix, if_neg h2] at this; omega), if_neg (fun h => h2 h.2.1), Int.mul_zero]
 ·rw [if_neg (fun h => by
   have := h.2
   rw [ix_nat h2, ix, if_neg h1] at this; omega), if_neg (fun h => h1 h.1), Int.mul_zero]
 ·rw [if_neg (fun h => by
   have := h.1
   rw [ix, if_neg h2] at this; omega), if_neg (fun h => h1 h.1), Int.mul_zero]
theorem accC_two (a : Lv) (old y : List Int) (w : Int) (i : Nat) (u v : Nat) : accC a old y w i 2 u v = w * invC old (yG y) u v + bothC a i u v := by
 rw [← wCell_inv]
 show wCell old y w u v + cellAt (MatrixF a i ((i : Int) - 1)) u v + cellAt (MatrixF a i ((i : Int) + 1)) u v = _
 rw [bothC]; omega
theorem stM_sum (a : Lv) (old y : List Int) (w : Int) (i : Nat) {o : List Nat} (ho : Part y.length 0 o) :
  sumC (cellAt (stM a old y w i)) o = w * sumC (invC old (yG y)) o + sumC (bothC a i) o := by
 rw [← sumC_mul, ← sumC_add]
 refine sumC_congr ho.nd fun u hu v hv _ => ?_
 rw [stM, cellAt_sq (ho.lt u hu) (ho.lt v hv), accC_two]
theorem layer_nodup {a : Lv} (hv : validF a = true) {i : Nat} {y : List Int} (hy : a.2.1[i]? = some y) : y.Nodup :=
 (List.pairwise_flatten.1 (valid_nodup hv)).1 y (List.mem_of_getElem? hy)
theorem permL_perm {y : List Int} {o : List Nat} (hn : y.Nodup) (ho : Part y.length 0 o) : (permL y o).Perm y :=
 (List.perm_ext_iff_of_nodup (permL_nodup hn ho) hn).2 fun _ => permL_mem ho
theorem reorder_put {a : Lv} (hv : validF a = true) {i : Nat} {y : List Int} {o : List Nat} (hy : a.2.1[i]? = some y) (ho : Part y.length 0 o) : reorderF a i (permL y o) = (putL a i (permL y o), 0) := by
 have hil := (List.getElem?_eq_some_iff.1 hy).1
 rw [reorderF, if_neg (by rw [hv]; decide), if_neg (by omega), Int.toNat_natCast, hy, Option.getD_some, if_neg (by rw [sortL_congr (permL_perm (layer_nodup hv hy) ho)]; simp)]
 rfl
end Go.Proofs.YtldbcbclhpcofaaGreat
namespace Go.Proofs.YtldbcbclhpcofaaGreat
open Go Go.PS Go.Proofs
open Go.Bd (sm ix invF invN comN sumC Part bestF)
set_option maxRecDepth 100000
attribute [local irreducible] wpRun wpG CallsTo CallsM

theorem cell_small (a : Lv) (i f : Int) (u v : Nat) : cellAt (MatrixF a i f) u v ≤ ((a.2.2.1.length * a.2.2.1.length : Nat) : Int) := by
 have hz : cellAt [] u v = 0 := by simp [cellAt, lstN, at0]
 rw [MatrixF]
 split
 ·by_cases hu : u < (endsF a.2.1 a.2.2.1 i f (lenAt a i)).length
  ·by_cases hv : v < (endsF a.2.1 a.2.2.1 i f (lenAt a i)).length
   ·rw [cellAt_mat hu hv, cellF]
    split
    ·omega
    ·have hl : ∀ k, (lstN (endsF a.2.1 a.2.2.1 i f (lenAt a i)) k).length ≤ a.2.2.1.length := fun k => by
      by_cases hk : k < lenAt a i
      ·rw [endsF, lstN, List.getElem?_map, List.getElem?_range hk]
       exact endsN_len ..
      ·rw [lstN_out (by simp [endsF]; omega)]; exact Nat.zero_le _
     have := Nat.le_trans (behindF_le _ _) (Nat.mul_le_mul (hl u) (hl v))
     omega
   ·have : cellAt (matF (endsF a.2.1 a.2.2.1 i f (lenAt a i))) u v = 0 := by
     rw [cellAt, matF, lstN, List.getElem?_map, List.getElem?_range hu]
     simp only [Option.map_some, Option.getD_some]
     rw [at0, Int.toNat_natCast, List.getElem?_eq_none (by simp; omega)]; rfl
    omega
  ·have : cellAt (matF (endsF a.2.1 a.2.2.1 i f (lenAt a i))) u v = 0 := by
    rw [cellAt, lstN_out (by rw [matF]; simp; omega)]; simp [at0]
   omega
 ·rw [hz]; omega
theorem stM_ok {a : Lv} {old y : List Int} {w : Int} {i : Nat} (hw : 0 ≤ w ∧ w ≤ 1000) (har : a.2.2.1.length ≤ 700) (hy : y.length ≤ 8) : okM (stM a old y w i) = true := by
 refine sq_ok ⟨by rw [stM_len]; omega, fun p hp => ?_, fun p hp x hx => ?_⟩ (by rw [stM_len]; exact hy)
 ·rw [stM_len]
  obtain ⟨u, _, rfl⟩ := List.mem_map.1 hp
  exact rowG_len _ _
 ·obtain ⟨u, _, rfl⟩ := List.mem_map.1 hp
  obtain ⟨v, _, rfl⟩ := List.mem_map.1 hx
  have hb : a.2.2.1.length * a.2.2.1.length ≤ 490000 := Nat.le_trans (Nat.mul_le_mul har har) (by decide)
  have h1 := cell_small a i ((i : Int) - 1) u v
  have h2 := cell_small a i ((i : Int) + 1) u v
  have h3 := (accC_le a old y hw i 2 u v).1
  have h4 := (accC_le a old y hw i 0 u v).2
  have e : accC a old y w i 2 u v = accC a old y w i 0 u v + cellAt (MatrixF a i ((i : Int) - 1)) u v + cellAt (MatrixF a i ((i : Int) + 1)) u v := rfl
  omega
theorem bestAll_part (m : List (List Int)) : Part m.length 0 (bestAll m).1 ∧ (bestAll m).2 = sumC (cellAt m) (bestAll m).1 := by
 obtain ⟨h1, _, h3⟩ := Go.Bd.best_of (cellAt m) m.length [] (part_nil _) _ (bestAll_eq m)
 exact ⟨h1, h3⟩
theorem cloneO_spec (l : List Int) (hn : l.length ≤ 1000000) : CallsM Tryz.prog 62 [.d (intsD l)] [(2000, .dead)] (.ref 2000 1 0 l.length l.length) [(2000, .row 1 (l.map D.int))] := by
 rcases Decidable.em (l = []) with rfl | hl
 ·refine callsM_of Tryz.func62 rfl (by decide +kernel) (Nat.le_of_ble_eq_true rfl) rfl (nodup_of rfl) rfl rfl rfl ?_
  intro B X w0
  refine pw_post ?_
  repeat' first | refine pw_seq ?_ | refine pw_skip ?_ | refine pw_ret ?_ | refine pw_exit ?_ | refine pw_block ?_ | refine pw_region (fun _ => false) hmix ?_ | (refine wpG_split rfl rfl (fun hc => ?_) (fun hc => ?_) <;> try simp only [hcL, reduceCtorEq] at hc) | (refine pw_cond _ rfl rfl (fun hc => ?_) (fun hc => ?_) <;> (try simp only [hcL, reduceCtorEq] at hc) <;> try (exfalso; omega)) | simp (maxSteps := 1000000) (disch := omega) only [go_sem, simprocAttr] | apply And.intro | omega | decide +kernel
  refine pw_anyb 4 rfl ?_
  intro b
  cases b
  ·repeat' first | refine pw_seq ?_ | refine pw_skip ?_ | refine pw_ret ?_ | refine pw_exit ?_ | refine pw_block ?_ | refine pw_region (Nat.beq 5) hmix ?_ | (refine wpG_split rfl rfl (fun hc => ?_) (fun hc => ?_) <;> try simp only [hcL, reduceCtorEq] at hc) | (refine pw_cond _ rfl rfl (fun hc => ?_) (fun hc => ?_) <;> (try simp only [hcL, reduceCtorEq] at hc) <;> try (exfalso; omega)) | simp (maxSteps := 1000000) (disch := omega) only [go_sem, simprocAttr, roomy] | apply And.intro | omega | decide +kernel
   refine ⟨_, entL_iff.1 (eL [(2000, 7)] [(2, .ref 2000 1 0 0 0)] [(2000, .row 1 [])] (by refine ⟨?_, ?_⟩ <;> (repeat' first | exact List.forall_mem_nil _ | refine List.forall_mem_cons.2 ⟨(by first | rfl | (simp (disch := omega) only [go_sem, simprocAttr, inL]; first | done | omega | (congr 1; done))), ?_⟩); done)), ?_⟩
   exact ⟨rfl, List.forall_mem_cons.2 ⟨rfl, List.forall_mem_nil _⟩⟩
  ·repeat' first | refine pw_seq ?_ | refine pw_skip ?_ | refine pw_ret ?_ | refine pw_exit ?_ | refine pw_block ?_ | refine pw_region (fun _ => false) hmix ?_ | (refine wpG_split rfl rfl (fun hc => ?_) (fun hc => ?_) <;> try simp only [hcL, reduceCtorEq] at hc) | (refine pw_cond _ rfl rfl (fun hc => ?_) (fun hc => ?_) <;> (try simp only [hcL, reduceCtorEq] at hc) <;> try (exfalso; omega)) | simp (maxSteps := 1000000) (disch := omega) only [go_sem, simprocAttr] | apply And.intro | omega | decide +kernel
   refine ⟨_, Ent.trans (ent_nil 2 7 1 rfl rfl) (entL_iff.1 (eL [(2000, 7)] [(2, .ref 2000 1 0 0 0)] [(2000, .row 1 [])] (by constructor <;> (repeat' first | exact List.forall_mem_nil _ | refine List.forall_mem_cons.2 ⟨rfl, ?_⟩)))), ?_⟩
   exact ⟨rfl, List.forall_mem_cons.2 ⟨rfl, List.forall_mem_nil _⟩⟩
 ·have he : (l.map D.int).isEmpty = false := by simpa using hl
  have hpos : 0 < l.length := List.length_pos_iff.2 hl
  refine callsM_of Tryz.func62 rfl (by decide +kernel) (Nat.le_of_ble_eq_true rfl) rfl (nodup_of rfl) rfl rfl rfl ?_
  intro B X w0
  refine pw_post ?_
  repeat' first | refine pw_seq ?_ | refine pw_skip ?_ | refine pw_ret ?_ | refine pw_exit ?_ | refine pw_block ?_ | refine pw_region (Nat.beq 5) hmix ?_ | (refine wpG_split rfl rfl (fun hc => ?_) (fun hc => ?_) <;> try simp only [hcL, reduceCtorEq] at hc) | (refine pw_cond _ rfl rfl (fun hc => ?_) (fun hc => ?_) <;> (try simp only [hcL, reduceCtorEq] at hc) <;> try (exfalso; omega)) | simp (maxSteps := 1000000) (disch := omega) only [go_sem, simprocAttr, he, roomy, take_map_len] | exact one_int l | apply And.intro | omega | decide +kernel
  refine ⟨_, entL_iff.1 (eL [(2000, 7)] [(2, .ref 2000 1 0 l.length l.length)] [(2000, .row 1 (l.map D.int))] (by refine ⟨?_, ?_⟩ <;> (repeat' first | exact List.forall_mem_nil _ | refine List.forall_mem_cons.2 ⟨(by first | rfl | (simp (disch := omega) only [go_sem, simprocAttr, inL]; first | done | omega | (congr 1; done))), ?_⟩); done)), ?_⟩
  exact ⟨rfl, List.forall_mem_cons.2 ⟨rfl, List.forall_mem_nil _⟩⟩
end Go.Proofs.YtldbcbclhpcofaaGreat
namespace Go.Proofs.YtldbcbclhpcofaaGreat
open Go Go.PS Go.Proofs
open Go.Bd (sm ix invF invN comN sumC Part bestF)
set_option maxRecDepth 100000
attribute [local irreducible] wpRun wpG CallsTo CallsM

end Go.Proofs.YtldbcbclhpcofaaGreat
namespace Go.Proofs.YtldbcbclhpcofaaGreat
open Go Go.PS Go.Proofs
open Go.Bd (sm ix invF invN comN sumC Part bestF)
set_option maxRecDepth 100000
attribute [local irreducible] wpRun wpG CallsTo CallsM

end Go.Proofs.YtldbcbclhpcofaaGreat
namespace Go.Proofs.YtldbcbclhpcofaaGreat
open Go Go.PS Go.Proofs
open Go.Bd (sm ix invF invN comN sumC Part bestF)
set_option maxRecDepth 100000
attribute [local irreducible] wpRun wpG CallsTo CallsM

end Go.Proofs.YtldbcbclhpcofaaGreat
namespace Go.Proofs.YtldbcbclhpcofaaGreat
open Go Go.PS Go.Proofs
open Go.Bd (sm ix invF invN comN sumC Part bestF)
set_option maxRecDepth 100000
attribute [local irreducible] wpRun wpG CallsTo CallsM

theorem sum_nil {a : Lv} (h : validF a = true) : costF a [] 7 = TotalF a := by
 have hz : ∀ k, invS a [] k = 0 := by
  intro k
  induction k with
  | zero => rfl
  | succ k ih =>
   have s1 : invS a [] (k + 1) = invS a [] k + (invF (lstN [] k) (lstN a.2.1 k) : Int) := rfl
   have s2 : ∀ (l : List Int) i, comN [] l i = [] := by
    intro l i
    induction i with
    | zero => rfl
    | succ i ihi => rw [comN]; split <;> simp [ihi]
   have s3 : lstN [] k = [] := lstN_out (Nat.zero_le _)
   rw [s1, ih, s3, invF, s2]; rfl
 rw [costF, if_pos (by rw [okW, h]; decide), hz]; omega
end Go.Proofs.YtldbcbclhpcofaaGreat
namespace Go.Proofs.YtldbcbclhpcofaaGreat
open Go Go.PS Go.Proofs
open Go.Bd (comN comO keptF cntN)
set_option maxRecDepth 100000
attribute [local irreducible] wpRun wpG CallsTo CallsM

end Go.Proofs.YtldbcbclhpcofaaGreat
namespace Go.Proofs.YtldbcbclhpcofaaGreat
open Go Go.PS Go.Proofs
open Go.Bd (invF comN comO keptF sumC Part)

theorem reorder_perm {a : Lv} (hv : validF a = true) {i : Nat} {y z : List Int} (hy : a.2.1[i]? = some y) (hz : z.Perm y) : reorderF a i z = (putL a i z, 0) := by
 have hil := (List.getElem?_eq_some_iff.1 hy).1
 rw [reorderF, if_neg (by rw [hv]; decide), if_neg (by omega), Int.toNat_natCast, hy, Option.getD_some, if_neg (by rw [sortL_congr hz]; simp)]
 rfl
theorem perm_valid {a : Lv} (hv : validF a = true) {i : Nat} {y z : List Int} (hy : a.2.1[i]? = some y) (hz : z.Perm y) : validF (putL a i z) = true := by
 have h := reorder_perm hv hy hz
 have := reorder_valid (a := a) (i := i) (o := z) (by rw [h])
 rw [h] at this; exact this
structure Kin (a b : Lv) : Prop where
 ok : validF b = true
 wd : wide b
 len : b.2.1.length = a.2.1.length
 arcs : b.2.2.1 = a.2.2.1
 perm : ∀ k, (lstN b.2.1 k).Perm (lstN a.2.1 k)
theorem Kin.refl {a : Lv} (hv : validF a = true) (hw : wide a) : Kin a a := ⟨hv, hw, rfl, rfl, fun _ => List.Perm.refl _⟩
theorem Kin.put {a b : Lv} (h : Kin a b) {i : Nat} {y z : List Int} (hy : b.2.1[i]? = some y) (hz : z.Perm y) : Kin a (putL b i z) := by
 have hil := (List.getElem?_eq_some_iff.1 hy).1
 have hyl : y.length ≤ 512 := by have := layer_le h.ok i; rw [lstN_at hy] at this; exact this
 refine ⟨perm_valid h.ok hy hz, ?_, ?_, h.arcs, fun k => ?_⟩
 ·have := reorder_wide (a := b) (i := i) (o := z) h.wd (by have := hz.length_eq; omega)
  rw [reorder_perm h.ok hy hz] at this; exact this
 ·rw [← h.len]; exact List.length_set
 ·have hl : (putL b i z).2.1 = b.2.1.set i z := rfl
  by_cases c : k = i
  ·subst c
   have hs : lstN (b.2.1.set k z) k = z := by rw [lstN, List.getElem?_set, if_pos rfl, if_pos hil]; rfl
   rw [hl, hs]
   have := h.perm k
   rw [lstN_at hy] at this
   exact hz.trans this
  ·have : lstN (b.2.1.set i z) k = lstN b.2.1 k := by rw [lstN, lstN, List.getElem?_set, if_neg (fun h => c h.symm)]
   rw [hl, this]; exact h.perm k
theorem Kin.lay {a b : Lv} (h : Kin a b) {k : Nat} (hk : k < a.2.1.length) : b.2.1[k]? = some (lstN b.2.1 k) := by
 obtain ⟨y, hy⟩ := get_some (l := b.2.1) (k := k) (by have := h.len; omega)
 rw [lstN_at hy]; exact hy
theorem Kin.llen {a b : Lv} (h : Kin a b) (k : Nat) : (lstN b.2.1 k).length = (lstN a.2.1 k).length := (h.perm k).length_eq
end Go.Proofs.YtldbcbclhpcofaaGreat
