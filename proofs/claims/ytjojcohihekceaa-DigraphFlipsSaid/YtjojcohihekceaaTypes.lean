/- Facts on the types of this seat's program, as the walk asks for them. -/
import Derived.Test.YtjojcohihekceaaPSLib
import Derived.Test.YtjojcohihekceaaProg
import Derived.KernelRfl
namespace Go.Proofs.Ytjojcohihekceaa
open Go Go.PS Go.Proofs
theorem hmix : Try.prog.follows .mixedOrders = true := by kernel_rfl
@[go_sem] theorem ty3 : tyi Try.prog 3 = ⟨1, false, [.int .i64 0], 0, 0, 5, [], 8, true, true, false, [], false⟩ := by kernel_rfl
@[go_sem] theorem sz3 : Try.prog.cellsOf 3 = 1 := by kernel_rfl
@[go_sem] theorem ty4 : tyi Try.prog 4 = ⟨1, false, [.bool false], 0, 0, 6, [], 1, true, true, false, [], false⟩ := by kernel_rfl
@[go_sem] theorem sz4 : Try.prog.cellsOf 4 = 1 := by kernel_rfl
@[go_sem] theorem ty22 : tyi Try.prog 22 = ⟨1, false, [.slice none 0 0], 43, 0, 1, [], 24, true, true, false, [], false⟩ := by kernel_rfl
@[go_sem] theorem sz22 : Try.prog.cellsOf 22 = 1 := by kernel_rfl
@[go_sem] theorem ty24 : tyi Try.prog 24 = ⟨2, true, [.int .i64 0, .slice none 0 0], 0, 0, 3, [(0, 3), (1, 22)], 32, true, true, false, [(0, 1), (1, 1)], true⟩ := by kernel_rfl
@[go_sem] theorem sz24 : Try.prog.cellsOf 24 = 2 := by kernel_rfl
@[go_sem] theorem ty30 : tyi Try.prog 30 = ⟨1, false, [.slice none 0 0], 3, 0, 1, [], 24, true, true, false, [], false⟩ := by kernel_rfl
@[go_sem] theorem sz30 : Try.prog.cellsOf 30 = 1 := by kernel_rfl
@[go_sem] theorem ty33 : tyi Try.prog 33 = ⟨1, false, [.int .i64 0], 0, 0, 5, [], 8, true, true, false, [], false⟩ := by kernel_rfl
@[go_sem] theorem sz33 : Try.prog.cellsOf 33 = 1 := by kernel_rfl
@[go_sem] theorem ty43 : tyi Try.prog 43 = ⟨2, true, [.int .i64 0, .int .i64 0], 0, 0, 3, [(0, 3), (1, 3)], 16, true, true, true, [(0, 1), (1, 1)], true⟩ := by kernel_rfl
@[go_sem] theorem sz43 : Try.prog.cellsOf 43 = 2 := by kernel_rfl
@[go_sem] theorem ty45 : tyi Try.prog 45 = ⟨1, false, [.slice none 0 0], 4, 0, 1, [], 24, true, true, false, [], false⟩ := by kernel_rfl
@[go_sem] theorem sz45 : Try.prog.cellsOf 45 = 1 := by kernel_rfl

end Go.Proofs.Ytjojcohihekceaa
