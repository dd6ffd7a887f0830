/- What the laws' arguments are as data. -/
import Derived.Test.YtnleimbfafcclaaTypes
import Derived.Test.YtnleimbfafcclaaPSBridge
namespace Go.Proofs.Ytnleimbfafcclaa
open Go Go.PS Go.Proofs
theorem cells_int {n : Nat} {cs : List D} (h : CellsOk Try.prog (n + 1) 3 cs) : ∃ m : Int, cs = [.int m] := by
  have hu : Try.prog.underlying 3 = some (.int .i64) := by kernel_rfl
  simp only [CellsOk, hu] at h
  obtain ⟨m, rfl, _⟩ := h
  exact ⟨m, rfl⟩
theorem arg_int {x : D} (h : ArgOk Try.prog 3 x) : ∃ m : Int, x = .int m := by
  obtain ⟨cs, h, rfl⟩ := h
  obtain ⟨m, rfl⟩ := cells_int h
  rw [ty3]
  exact ⟨m, rfl⟩
end Go.Proofs.Ytnleimbfafcclaa
