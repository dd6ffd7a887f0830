/- What the laws' arguments are as data. -/
import Derived.Test.YtjojcohihekceaaA
import Derived.Test.YtjojcohihekceaaPSBridge
namespace Go.Proofs.Ytjojcohihekceaa
open Go Go.PS Go.Proofs
theorem cells_int {n : Nat} {cs : List D} (h : CellsOk Try.prog (n + 1) 3 cs) : ∃ m : Int, cs = [.int m] := by
  have hu : Try.prog.underlying 3 = some (.int .i64) := by kernel_rfl
  simp only [CellsOk, hu] at h
  obtain ⟨m, rfl, _⟩ := h
  exact ⟨m, rfl⟩
theorem arg_int {x : D} (h : ArgOk Try.prog 3 x) : ∃ m : Int, x = .int m := by
  obtain ⟨cs, h, rfl⟩ := h
  obtain ⟨m, rfl⟩ := cells_int h
  rw [ty3]
  exact ⟨m, rfl⟩
theorem cells_arc {n : Nat} {cs : List D} (h : CellsOk Try.prog (n + 2) 43 cs) : ∃ p : Arc, cs = [.int p.1, .int p.2] := by
  have h := cells_struct (ts := [3, 3]) (by kernel_rfl) h
  obtain ⟨p, r, rfl, hp, q, r', rfl, hq, rfl⟩ := h
  obtain ⟨a, rfl⟩ := cells_int hp
  obtain ⟨b, rfl⟩ := cells_int hq
  exact ⟨(a, b), rfl⟩
theorem cells_arcs {n : Nat} {cs : List D} (h : CellsOk Try.prog (n + 3) 22 cs) : ∃ l : List Arc, cs = [arcsD l] := by
  obtain ⟨l, rfl, hl⟩ := cells_slice (e := 43) (by kernel_rfl) h
  obtain ⟨ys, rfl⟩ := map_of (f := arcD) (l := l) (fun d hd => by
    obtain ⟨es, rfl, _, he⟩ := hl d hd
    obtain ⟨p, rfl⟩ := cells_arc he
    rw [ty43]; exact ⟨p, rfl⟩)
  exact ⟨ys, rfl⟩
theorem cells_ints {n : Nat} {cs : List D} (h : CellsOk Try.prog (n + 2) 30 cs) : ∃ l : List Int, cs = [intsD l] := by
  obtain ⟨l, rfl, hl⟩ := cells_slice (e := 3) (by kernel_rfl) h
  obtain ⟨ys, rfl⟩ := map_of (f := D.int) (l := l) (fun d hd => by
    obtain ⟨es, rfl, _, he⟩ := hl d hd
    obtain ⟨p, rfl⟩ := cells_int he
    rw [ty3]; exact ⟨p, rfl⟩)
  exact ⟨ys, rfl⟩
theorem arg_ints {x : D} (h : ArgOk Try.prog 30 x) : ∃ l : List Int, x = intsD l := by
  obtain ⟨cs, h, rfl⟩ := h
  obtain ⟨l, rfl⟩ := cells_ints h
  rw [ty30]; exact ⟨l, rfl⟩
theorem arg_g {x : D} (h : ArgOk Try.prog 24 x) : ∃ g : Gr, x = gD g := by
  obtain ⟨cs, h, rfl⟩ := h
  have h := cells_struct (ts := [3, 22]) (by kernel_rfl) h
  obtain ⟨_, _, rfl, h1, _, _, rfl, h2, rfl⟩ := h
  obtain ⟨a, rfl⟩ := cells_int h1
  obtain ⟨l, rfl⟩ := cells_arcs h2
  rw [ty24]
  exact ⟨(a, l), rfl⟩
end Go.Proofs.Ytjojcohihekceaa
