/- What the laws' arguments are as data. -/
import Derived.Test.YtpmmikkojpcogaaK
import Derived.Test.YtpmmikkojpcogaaPSBridge
namespace Go.Proofs.Ytpmmikkojpcogaa
open Go Go.PS Go.Proofs
set_option maxRecDepth 100000
theorem cells_int {n : Nat} {cs : List D} (h : CellsOk Try.prog (n + 1) 3 cs) : ∃ m : Int, cs = [.int m] := by
  have hu : Try.prog.underlying 3 = some (.int .i64) := by kernel_rfl
  simp only [CellsOk, hu] at h
  obtain ⟨m, rfl, _⟩ := h
  exact ⟨m, rfl⟩
theorem arg_int {x : D} (h : ArgOk Try.prog 3 x) : ∃ m : Int, x = .int m := by
  obtain ⟨cs, h, rfl⟩ := h
  obtain ⟨m, rfl⟩ := cells_int h
  rw [ty3]
  exact ⟨m, rfl⟩
theorem cells_arc {n : Nat} {cs : List D} (h : CellsOk Try.prog (n + 2) 39 cs) : ∃ p : Arc, cs = [.int p.1, .int p.2] := by
  have h := cells_struct (ts := [3, 3]) (by kernel_rfl) h
  obtain ⟨p, r, rfl, hp, q, r', rfl, hq, rfl⟩ := h
  obtain ⟨a, rfl⟩ := cells_int hp
  obtain ⟨b, rfl⟩ := cells_int hq
  exact ⟨(a, b), rfl⟩
theorem cells_arcs {n : Nat} {cs : List D} (h : CellsOk Try.prog (n + 3) 22 cs) : ∃ l : List Arc, cs = [arcsD l] := by
  obtain ⟨l, rfl, hl⟩ := cells_slice (e := 39) (by kernel_rfl) h
  obtain ⟨ys, rfl⟩ := map_of (f := arcD) (l := l) (fun d hd => by
    obtain ⟨es, rfl, _, he⟩ := hl d hd
    obtain ⟨p, rfl⟩ := cells_arc he
    rw [ty39]; exact ⟨p, rfl⟩)
  exact ⟨ys, rfl⟩
theorem cells_ints {n : Nat} {cs : List D} (h : CellsOk Try.prog (n + 2) 25 cs) : ∃ l : List Int, cs = [intsD l] ∧ l.length * 8 ≤ 140737488351232 := by
  obtain ⟨l, rfl, hb, hl⟩ := cells_sliceS (e := 3) (by kernel_rfl) h
  obtain ⟨ys, rfl⟩ := map_of (f := D.int) (l := l) (fun d hd => by
    obtain ⟨es, rfl, _, he⟩ := hl d hd
    obtain ⟨p, rfl⟩ := cells_int he
    rw [ty3]; exact ⟨p, rfl⟩)
  refine ⟨ys, rfl, ?_⟩
  have hb3 : Try.prog.bytesOf 3 = 8 := by kernel_rfl
  rw [hb3, List.length_map] at hb
  exact hb
theorem map_of2 {α : Type} {f : α → D} {p : α → Prop} : ∀ {l : List D}, (∀ d ∈ l, ∃ a, d = f a ∧ p a) → ∃ ys : List α, l = ys.map f ∧ ∀ y ∈ ys, p y
  | [], _ => ⟨[], rfl, fun y hy => by cases hy⟩
  | d :: l, h => by
    obtain ⟨a, rfl, ha⟩ := h d (by simp)
    obtain ⟨ys, rfl, hy⟩ := map_of2 (l := l) (fun e he => h e (List.mem_cons_of_mem _ he))
    refine ⟨a :: ys, rfl, fun y hy2 => ?_⟩
    rcases List.mem_cons.1 hy2 with rfl | hy2
    · exact ha
    · exact hy y hy2
theorem cells_lists {n : Nat} {cs : List D} (h : CellsOk Try.prog (n + 3) 26 cs) : ∃ l : List (List Int), cs = [listsD l] ∧ ∀ y ∈ l, y.length * 8 ≤ 140737488351232 := by
  obtain ⟨l, rfl, hl⟩ := cells_slice (e := 25) (by kernel_rfl) h
  obtain ⟨ys, rfl, hy⟩ := map_of2 (f := intsD) (p := fun y => y.length * 8 ≤ 140737488351232) (l := l) (fun d hd => by
    obtain ⟨es, rfl, _, he⟩ := hl d hd
    obtain ⟨p, rfl, hp⟩ := cells_ints he
    rw [ty25]; exact ⟨p, rfl, hp⟩)
  exact ⟨ys, rfl, hy⟩
theorem arg_ints {x : D} (h : ArgOk Try.prog 25 x) : ∃ l : List Int, x = intsD l := by
  obtain ⟨cs, h, rfl⟩ := h
  obtain ⟨l, rfl, _⟩ := cells_ints h
  rw [ty25]; exact ⟨l, rfl⟩
theorem arg_g {x : D} (h : ArgOk Try.prog 24 x) : ∃ g : Gr, x = gD g := by
  obtain ⟨cs, h, rfl⟩ := h
  have h := cells_struct (ts := [3, 22]) (by kernel_rfl) h
  obtain ⟨_, _, rfl, h1, _, _, rfl, h2, rfl⟩ := h
  obtain ⟨a, rfl⟩ := cells_int h1
  obtain ⟨l, rfl⟩ := cells_arcs h2
  rw [ty24]
  exact ⟨(a, l), rfl⟩
theorem arg_lv {x : D} (h : ArgOk Try.prog 28 x) : ∃ a : {a : Lv // wide a}, x = lvD a.1 := by
  obtain ⟨cs, h, rfl⟩ := h
  have h := cells_struct (ts := [3, 26, 22, 26]) (by kernel_rfl) h
  obtain ⟨_, _, rfl, h1, _, _, rfl, h2, _, _, rfl, h3, _, _, rfl, h4, rfl⟩ := h
  obtain ⟨a, rfl⟩ := cells_int h1
  obtain ⟨b, rfl, hb⟩ := cells_lists h2
  obtain ⟨c, rfl⟩ := cells_arcs h3
  obtain ⟨d, rfl, _⟩ := cells_lists h4
  rw [ty28]
  exact ⟨⟨(a, b, c, d), hb⟩, rfl⟩
end Go.Proofs.Ytpmmikkojpcogaa
