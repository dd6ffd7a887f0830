/- Facts on the types of this seat's program, as the walk asks for them. -/
import Derived.Test.YtnleimbfafcclaaPSLib
import Derived.Test.YtnleimbfafcclaaProg
import Derived.KernelRfl
namespace Go.Proofs.Ytnleimbfafcclaa
open Go Go.PS Go.Proofs
theorem hmix : Try.prog.follows .mixedOrders = true := by kernel_rfl
@[go_sem] theorem ty3 : tyi Try.prog 3 = ⟨1, false, [.int .i64 0], 0, 0, 5, [], 8, true, true, false, [], false⟩ := by kernel_rfl
@[go_sem] theorem sz3 : Try.prog.cellsOf 3 = 1 := by kernel_rfl
@[go_sem] theorem ty4 : tyi Try.prog 4 = ⟨1, false, [.bool false], 0, 0, 6, [], 1, true, true, false, [], false⟩ := by kernel_rfl
@[go_sem] theorem sz4 : Try.prog.cellsOf 4 = 1 := by kernel_rfl
@[go_sem] theorem ty22 : tyi Try.prog 22 = ⟨1, false, [.slice none 0 0], 34, 0, 1, [], 24, true, true, false, [], false⟩ := by kernel_rfl
@[go_sem] theorem sz22 : Try.prog.cellsOf 22 = 1 := by kernel_rfl
@[go_sem] theorem ty27 : tyi Try.prog 27 = ⟨1, false, [.slice none 0 0], 31, 0, 1, [], 24, true, true, false, [], false⟩ := by kernel_rfl
@[go_sem] theorem sz27 : Try.prog.cellsOf 27 = 1 := by kernel_rfl
@[go_sem] theorem ty31 : tyi Try.prog 31 = ⟨4, true, [.int .i64 0, .int .i64 0, .int .i64 0, .int .i64 0], 0, 0, 3, [(0, 3), (1, 3), (2, 3), (3, 3)], 32, true, true, true, [(0, 1), (1, 1), (2, 1), (3, 1)], true⟩ := by kernel_rfl
@[go_sem] theorem sz31 : Try.prog.cellsOf 31 = 4 := by kernel_rfl
@[go_sem] theorem ty34 : tyi Try.prog 34 = ⟨2, true, [.int .i64 0, .int .i64 0], 0, 0, 3, [(0, 3), (1, 3)], 16, true, true, true, [(0, 1), (1, 1)], true⟩ := by kernel_rfl
@[go_sem] theorem sz34 : Try.prog.cellsOf 34 = 2 := by kernel_rfl
@[go_sem] theorem ty45 : tyi Try.prog 45 = ⟨4, true, [.int .i64 0, .int .i64 0, .int .i64 0, .int .i64 0], 0, 0, 3, [(0, 34), (2, 34)], 32, true, true, false, [(0, 2), (2, 2)], true⟩ := by kernel_rfl
@[go_sem] theorem sz45 : Try.prog.cellsOf 45 = 4 := by kernel_rfl
@[go_sem] theorem ty49 : tyi Try.prog 49 = ⟨2, true, [.int .i64 0, .int .i64 0], 0, 0, 3, [(0, 3), (1, 3)], 16, true, true, true, [(0, 1), (1, 1)], true⟩ := by kernel_rfl
@[go_sem] theorem sz49 : Try.prog.cellsOf 49 = 2 := by kernel_rfl
@[go_sem] theorem ty54 : tyi Try.prog 54 = ⟨4, true, [.int .i64 0, .int .i64 0, .int .i64 0, .bool false], 0, 0, 3, [(0, 3), (1, 3), (2, 3), (3, 4)], 32, true, true, false, [(0, 1), (1, 1), (2, 1), (3, 1)], true⟩ := by kernel_rfl
@[go_sem] theorem sz54 : Try.prog.cellsOf 54 = 4 := by kernel_rfl
end Go.Proofs.Ytnleimbfafcclaa
